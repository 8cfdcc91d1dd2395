/-
  Texts that the claim rests on, merged: Data, Read, FormData, TermData, Ty, Abs, AbsWp, AbsOps, AbsMem.
-/
import Derived.WalkKit
import Derived.Lib.Hide
import Derived.Test.YtagnfckihdlhpaaRows
import Derived.ProofKit
import Derived.OpenShut
import Derived.ShutString
import Derived.ChangeOld
import Derived.Below
import Derived.Deep.Slices
import Derived.Deep.Strs
import Derived.Lib.SmallJoins
import Derived.KernelRfl

/-
  How Go data of this program (numbers, strings, bools, slices of structs) lies in memory: one relation for all types, and how it is kept.
-/
namespace Go.Proofs.Ytagnfckihdlhpaa
open Go.RowKit

/-- A cell's datum: a plain value, or a slice of 'num' elements whose cells are 'cells'. -/
structure D where
  val : Option Value
  num : Nat
  cells : List D

def D.lit (u : Value) : D := ⟨some u, 0, []⟩
def D.row (n : Nat) (cs : List D) : D := ⟨none, n, cs⟩

/-- The value u is one that a cell of its kind can hold. -/
def okLit : Value → Prop
  | .int k n => (Lit.int k n).wf = true
  | .string s => s.size ≤ maxLen
  | _ => True

/-- The value v holds the datum d in the world w, all that it leads to lying in blocks of S. -/
def At (w : World) (S : Nat → Prop) (d : D) (v : Value) : Prop :=
  match d with
  | ⟨some u, _, _⟩ => v = u ∧ okLit u
  | ⟨none, n, cs⟩ => ∃ A c, v = .slice A n c ∧ n ≤ c ∧ c ≤ 9223372036854775807 ∧
      (0 < cs.length → ∃ b off, A = some ⟨b, off, none⟩ ∧ S b ∧ ∀ k, (h : k < cs.length) → ∃ u, w.cell? ⟨b, off + k, none⟩ = some u ∧ At w S cs[k] u)
termination_by d
decreasing_by
  have hx := List.sizeOf_lt_of_mem (List.getElem_mem h)
  simp only [D.mk.sizeOf_spec]
  omega

theorem at_lit {w : World} {S : Nat → Prop} {u v : Value} : At w S (.lit u) v ↔ (v = u ∧ okLit u) := by unfold D.lit; rw [At]
theorem at_row {w : World} {S : Nat → Prop} {n : Nat} {cs : List D} {v : Value} : At w S (.row n cs) v ↔ (∃ A c, v = .slice A n c ∧ n ≤ c ∧ c ≤ 9223372036854775807 ∧
      (0 < cs.length → ∃ b off, A = some ⟨b, off, none⟩ ∧ S b ∧ ∀ k, (h : k < cs.length) → ∃ u, w.cell? ⟨b, off + k, none⟩ = some u ∧ At w S cs[k] u)) := by
  unfold D.row; rw [At]

theorem D.cases (d : D) : (∃ u n cs, d = ⟨some u, n, cs⟩) ∨ (∃ n cs, d = .row n cs) := by
  rcases d with ⟨_ | u, n, cs⟩
  · exact .inr ⟨n, cs, rfl⟩
  · exact .inl ⟨u, n, cs, rfl⟩

/-- Induction over a datum. -/
theorem D.induct {p : D → Prop} (hl : ∀ u n cs, p ⟨some u, n, cs⟩) (hr : ∀ n cs, (∀ k, (h : k < cs.length) → p cs[k]) → p (.row n cs)) (d : D) : p d := by
  match d with
  | ⟨some u, n, cs⟩ => exact hl u n cs
  | ⟨none, n, cs⟩ => exact hr n cs fun k h => D.induct hl hr cs[k]
termination_by d
decreasing_by
  have hx := List.sizeOf_lt_of_mem (List.getElem_mem h)
  simp only [D.mk.sizeOf_spec]
  omega

/-- A datum is kept while the cells of its blocks are. -/
theorem At.keep {w w' : World} {S S' : Nat → Prop} (hk : ∀ b o, S b → b < w.heap.size → w'.cell? ⟨b, o, none⟩ = w.cell? ⟨b, o, none⟩) (hS : ∀ b, S b → b < w.heap.size → S' b) {d : D} :
    ∀ {v : Value}, At w S d v → At w' S' d v := by
  induction d using D.induct with
  | hl u n cs =>
    intro v h
    rw [At] at h ⊢
    exact h
  | hr n cs ih =>
    intro v h
    rw [at_row] at h ⊢
    obtain ⟨A, c, h1, h2, h3, h4⟩ := h
    refine ⟨A, c, h1, h2, h3, fun hp => ?_⟩
    obtain ⟨b, off, e, hs, hc⟩ := h4 hp
    have hlt : b < w.heap.size := by
      obtain ⟨u, hu, _⟩ := hc 0 hp
      exact World.block_lt_of_cell? w _ hu
    refine ⟨b, off, e, hS b hs hlt, fun k hk' => ?_⟩
    obtain ⟨u, hu, hat⟩ := hc k hk'
    exact ⟨u, by rw [hk b _ hs hlt]; exact hu, ih k hk' hat⟩

/-- The blocks that lie there already. -/
def Old (w : World) : Nat → Prop := fun b => b < w.heap.size
/-- The blocks from B on. -/
def From (B : Nat) : Nat → Prop := fun b => B ≤ b
/-- Any block. -/
def Any : Nat → Prop := fun _ => True

theorem At.below {w w' : World} {S : Nat → Prop} {d : D} {v : Value} (h : At w S d v) (hb : Below w.heap.size w w') : At w' S d v :=
  h.keep (fun b o _ hlt => hb.cell (p := ⟨b, o, none⟩) hlt) (fun _ h _ => h)
theorem At.mono {w : World} {S S' : Nat → Prop} {d : D} {v : Value} (h : At w S d v) (hS : ∀ b, S b → b < w.heap.size → S' b) : At w S' d v :=
  h.keep (fun _ _ _ _ => rfl) hS
theorem At.any {w : World} {S : Nat → Prop} {d : D} {v : Value} (h : At w S d v) : At w Any d v := h.mono fun _ _ _ => trivial
theorem At.old {w : World} {S : Nat → Prop} {d : D} {v : Value} (h : At w S d v) : At w (Old w) d v := h.mono fun _ _ h => h
theorem At.alloc {w : World} {S : Nat → Prop} {d : D} {v : Value} (h : At w S d v) (o : Obj) : At (w.alloc o) S d v := h.below ((Below.refl _ _).alloc (Nat.le_refl _) _)
theorem At.drew {w : World} {S : Nat → Prop} {d : D} {v : Value} (h : At w S d v) : At w.drew S d v := h.below (Below.refl _ _).drew
/-- A store into a block outside S. -/
theorem At.setCell {w : World} {S : Nat → Prop} {d : D} {v : Value} (h : At w S d v) {p : Addr} (hp : ¬ S p.block) (u : Value) : At (w.setCell p u) S d v :=
  h.keep (fun b o hb _ => World.cell?_setCell_other w p ⟨b, o, none⟩ u (fun e => by subst e; exact hp hb)) (fun _ h _ => h)

theorem At.slice {w : World} {S : Nat → Prop} {n : Nat} {cs : List D} {v : Value} (h : At w S (.row n cs) v) : ∃ A c, v = .slice A n c ∧ n ≤ c ∧ c ≤ 9223372036854775807 := by
  obtain ⟨A, c, h1, h2, h3, _⟩ := at_row.1 h
  exact ⟨A, c, h1, h2, h3⟩

/-- One cell of a slice. -/
theorem At.cellAt {w : World} {S : Nat → Prop} {n c : Nat} {cs : List D} {A : Option Addr} (h : At w S (.row n cs) (.slice A n c)) (hp : 0 < cs.length) :
    ∃ b off, A = some ⟨b, off, none⟩ ∧ S b ∧ b < w.heap.size ∧ ∀ (k : Nat) (d : D), cs[k]? = some d → ∃ u, w.cell? ⟨b, off + k, none⟩ = some u ∧ At w S d u := by
  obtain ⟨A', c', h1, _, _, h4⟩ := at_row.1 h
  obtain ⟨rfl, _, rfl⟩ : A = A' ∧ n = n ∧ c = c' := by injection h1 with a b c; exact ⟨a, b, c⟩
  obtain ⟨b, off, e, hs, hc⟩ := h4 hp
  refine ⟨b, off, e, hs, ?_, fun k d hd => ?_⟩
  · obtain ⟨u, hu, _⟩ := hc 0 hp
    exact World.block_lt_of_cell? w _ hu
  · obtain ⟨hk, rfl⟩ := List.getElem?_eq_some_iff.1 hd
    exact hc k hk

/-- Block g is just the cells cs of element type t, none frozen. -/
def Blk (w : World) (g : Nat) (t : TypeId) (cs : Array Value) : Prop := w.heap[g]? = some (.cells cs t (0, 0))
theorem Blk.lt {w : World} {g : Nat} {t : TypeId} {cs : Array Value} (h : Blk w g t cs) : g < w.heap.size := by
  rcases Nat.lt_or_ge g w.heap.size with hlt | hge
  · exact hlt
  · unfold Blk at h; rw [Array.getElem?_eq_none hge] at h; cases h
theorem Blk.cell {w : World} {g : Nat} {t : TypeId} {cs : Array Value} (h : Blk w g t cs) (i : Nat) : w.cell? ⟨g, i, none⟩ = cs[i]? := cell_of_row w g i cs t (0, 0) h
theorem Blk.frozen {w : World} {g : Nat} {t : TypeId} {cs : Array Value} (h : Blk w g t cs) (i : Nat) : w.frozen? ⟨g, i, none⟩ = false := by
  unfold Blk at h
  simp [World.frozen?, h]
theorem Blk.new (w : World) (t : TypeId) (cs : Array Value) : Blk (w.alloc (.cells cs t)) w.heap.size t cs := heap_alloc_new w _
theorem Blk.drew {w : World} {g : Nat} {t : TypeId} {cs : Array Value} (h : Blk w g t cs) : Blk w.drew g t cs := h
theorem Blk.alloc {w : World} {g : Nat} {t : TypeId} {cs : Array Value} (h : Blk w g t cs) (o : Obj) : Blk (w.alloc o) g t cs := (Below.heap_alloc w o g h.lt).trans h
theorem Blk.set_ {w : World} {g : Nat} {t : TypeId} {cs : Array Value} (h : Blk w g t cs) (i : Nat) (u : Value) : Blk (w.setCell ⟨g, i, none⟩ u) g t (cs.setIfInBounds i u) := by
  unfold Blk at h ⊢
  simp [World.setCell, Array.getElem?_modify, h]
theorem Blk.far {w : World} {g : Nat} {t : TypeId} {cs : Array Value} (h : Blk w g t cs) {p : Addr} (hp : g ≠ p.block) (u : Value) : Blk (w.setCell p u) g t cs := (Below.heap_setCell w p u g hp).trans h
theorem Blk.below {w w' : World} {g : Nat} {t : TypeId} {cs : Array Value} {B : Nat} (h : Blk w g t cs) (hb : Below B w w') (hg : g < B) : Blk w' g t cs := (hb.block g hg).trans h

theorem Blk.c1 {w : World} {g : Nat} {t : TypeId} {a : Value} (h : Blk w g t #[a]) : w.cell? ⟨g, 0, none⟩ = some a := h.cell 0
theorem Blk.c2 {w : World} {g : Nat} {t : TypeId} {a b : Value} (h : Blk w g t #[a, b]) : w.cell? ⟨g, 0, none⟩ = some a ∧ w.cell? ⟨g, 1, none⟩ = some b := ⟨h.cell 0, h.cell 1⟩
theorem Blk.c3 {w : World} {g : Nat} {t : TypeId} {a b c : Value} (h : Blk w g t #[a, b, c]) : w.cell? ⟨g, 0, none⟩ = some a ∧ w.cell? ⟨g, 1, none⟩ = some b ∧ w.cell? ⟨g, 2, none⟩ = some c := ⟨h.cell 0, h.cell 1, h.cell 2⟩
theorem Blk.c4 {w : World} {g : Nat} {t : TypeId} {a b c d : Value} (h : Blk w g t #[a, b, c, d]) : w.cell? ⟨g, 0, none⟩ = some a ∧ w.cell? ⟨g, 1, none⟩ = some b ∧ w.cell? ⟨g, 2, none⟩ = some c ∧ w.cell? ⟨g, 3, none⟩ = some d := ⟨h.cell 0, h.cell 1, h.cell 2, h.cell 3⟩
theorem Blk.next {w w' : World} {g : Nat} {t : TypeId} {cs : Array Value} (h : Blk w g t cs) (hb : Below w.heap.size w w') : Blk w' g t cs := h.below hb h.lt

/-- What was there reads as before: two rules for the walk. -/
theorem bcell {W w1 : World} (hb : Below W.heap.size W w1) : (∀ b o, b < W.heap.size → w1.cell? ⟨b, o, none⟩ = W.cell? ⟨b, o, none⟩) ∧ (∀ b o, b < W.heap.size → w1.frozen? ⟨b, o, none⟩ = W.frozen? ⟨b, o, none⟩) :=
  ⟨fun b o h => hb.cell (p := ⟨b, o, none⟩) h, fun b o h => hb.frozen (p := ⟨b, o, none⟩) h⟩

/-- A flat list of equal parts: part i, place j. -/
theorem flat_at {α β : Type} (f : α → List β) (s : Nat) (hs : ∀ a, (f a).length = s) (l : List α) (i j : Nat) (hj : j < s) : (l.flatMap f)[i * s + j]? = l[i]?.bind fun a => (f a)[j]? := by
  induction l generalizing i with
  | nil => simp
  | cons a l ih =>
    rw [List.flatMap_cons]
    cases i with
    | zero => simp [List.getElem?_append_left (show j < (f a).length by rw [hs]; exact hj)]
    | succ i =>
      have e : (i + 1) * s + j = s + (i * s + j) := by rw [Nat.add_mul]; omega
      rw [e, List.getElem?_append_right (by rw [hs]; omega), hs, Nat.add_sub_cancel_left]
      simpa using ih i
theorem flat_len {α β : Type} (f : α → List β) (s : Nat) (hs : ∀ a, (f a).length = s) (l : List α) : (l.flatMap f).length = l.length * s := by
  induction l with
  | nil => simp
  | cons a l ih => rw [List.flatMap_cons, List.length_append, hs, ih, List.length_cons, Nat.add_mul]; omega

/-- The datum of a []int. -/
def ints (xs : List Int) : D := .row xs.length (xs.map fun x => .lit (.int .i64 x))
theorem ints_slice {w : World} {S : Nat → Prop} {xs : List Int} {v : Value} (h : At w S (ints xs) v) : ∃ A c, v = .slice A xs.length c ∧ xs.length ≤ c ∧ c ≤ 9223372036854775807 := h.slice
theorem ints_at {w : World} {S : Nat → Prop} {xs : List Int} {A : Option Addr} {n c : Nat} (h : At w S (ints xs) (.slice A n c)) (hp : 0 < xs.length) :
    ∃ b off, A = some ⟨b, off, none⟩ ∧ S b ∧ b < w.heap.size ∧ ∀ (k : Nat), k < xs.length → w.cell? ⟨b, off + k, none⟩ = some (.int .i64 (xs.getD k 0)) ∧ (Lit.int .i64 (xs.getD k 0)).wf = true := by
  have hn : n = xs.length := by obtain ⟨_, _, e, _⟩ := ints_slice h; injection e
  subst hn
  obtain ⟨b, off, e, hs, hlt, hc⟩ := At.cellAt h (by simpa using hp)
  refine ⟨b, off, e, hs, hlt, fun k hk => ?_⟩
  obtain ⟨u, hu, ha⟩ := hc k (.lit (.int .i64 (xs.getD k 0))) (by simp [List.getD, hk])
  obtain ⟨rfl, hok⟩ := at_lit.1 ha
  exact ⟨hu, hok⟩
theorem wf_bounds {n : Int} (h : (Lit.int .i64 n).wf = true) : -9223372036854775808 ≤ n ∧ n ≤ 9223372036854775807 := by
  simp [Lit.wf, IntKind.min, IntKind.max, IntKind.signed, IntKind.bits] at h
  omega
/-- One element of a []int. -/
theorem ints_get {w : World} {S : Nat → Prop} {xs : List Int} {A : Option Addr} {n c k : Nat} (h : At w S (ints xs) (.slice A n c)) (hk : k < xs.length) :
    ∃ b off x, A = some ⟨b, off, none⟩ ∧ S b ∧ b < w.heap.size ∧ w.cell? ⟨b, off + k, none⟩ = some (.int .i64 x) ∧ Hid (xs[k]? = some x) ∧ -9223372036854775808 ≤ x ∧ x ≤ 9223372036854775807 := by
  obtain ⟨b, off, e, hs, hlt, hc⟩ := ints_at h (by omega)
  obtain ⟨h1, h2⟩ := hc k hk
  refine ⟨b, off, xs.getD k 0, e, hs, hlt, h1, ?_, ?_⟩
  · show xs[k]? = _
    simp [List.getD, hk]
  · exact wf_bounds h2
/-- A []int from its cells. -/
theorem ints_mk {w : World} {S : Nat → Prop} {xs : List Int} {A : Option Addr} {c : Nat} (hn : xs.length ≤ c) (hc : c ≤ 9223372036854775807)
    (h : 0 < xs.length → ∃ b off, A = some ⟨b, off, none⟩ ∧ S b ∧ ∀ k, k < xs.length → w.cell? ⟨b, off + k, none⟩ = some (.int .i64 (xs.getD k 0)) ∧ (Lit.int .i64 (xs.getD k 0)).wf = true) :
    At w S (ints xs) (.slice A xs.length c) := by
  refine at_row.2 ⟨A, c, rfl, hn, hc, fun hp => ?_⟩
  obtain ⟨b, off, e, hs, hk⟩ := h (by simpa using hp)
  refine ⟨b, off, e, hs, fun k hlt => ?_⟩
  have hlt' : k < xs.length := by simpa using hlt
  obtain ⟨h1, h2⟩ := hk k hlt'
  refine ⟨_, h1, ?_⟩
  simp only [List.getElem_map]
  refine at_lit.2 ⟨?_, ?_⟩
  · simp [List.getD, hlt']
  · have e2 : xs[k] = xs.getD k 0 := by simp [List.getD, hlt']
    rw [e2]; exact h2

/-- make([]T, n), T of any number of cells. -/
theorem make_rowN {P : Program} (t e : TypeId) (z : Value) (size bytes : Nat) (ht : P.underlying t = some (.slice e)) (hinfo : (P.info? e).map (fun i => (i.zero, i.size, i.bytes)) = some (some z, size, bytes))
    (n : Nat) (hbytes : bytes * n ≤ 281474976710656) (h63 : n ≤ 9223372036854775807) (w : World) :
    (Instr.makeSlice t (.int .i64 (n : Int)) (.int .i64 (n : Int))).run P w = .ok (.slice (some ⟨w.heap.size, 0, none⟩) n n) (w.alloc (.cells (madeCells z.cells (n * size)) e)) := by
  obtain ⟨i, hi, hzz⟩ := Option.map_eq_some_iff.1 hinfo
  simp only [Prod.mk.injEq] at hzz
  obtain ⟨hz, hs, hb⟩ := hzz
  have hb' : (i.bytes : Int) * (n : Int) ≤ 281474976710656 := by
    have h : ((i.bytes * n : Nat) : Int) ≤ 281474976710656 := by rw [hb]; omega
    rwa [Int.natCast_mul] at h
  have hr := run_make (P := P) w t e i z ht hi hz .i64 .i64 n n (by omega) (by omega) hb' (by omega)
  simp only [Int.toNat_natCast, hs] at hr
  exact hr
theorem made_size (z : Array Value) (n : Nat) : (madeCells z n).size = n := by simp [madeCells]

end Go.Proofs.Ytagnfckihdlhpaa

/-
  From a reading of an argument (the row's form) to the relation 'At' that the walks speak of.
-/
namespace Go.Proofs.Ytagnfckihdlhpaa
open Go.ChangeShapes Go.WideShapes Go.ChangeAt Go.RowKit Go.Deep Go.Joins

theorem Try.own : ownKnob Try.prog.godebug = none := by kernel_rfl
theorem Try.laidOut : laidOutB Try.prog = true := by kernel_rfl

theorem spot_none {w : World} {a : Addr} {v : Value} (h : w.cell? a = some v) : a = ⟨a.block, a.off, none⟩ := by
  obtain ⟨b, o, s⟩ := a
  have : s = none := World.cell?_spot h
  subst this
  rfl

theorem add_none (b o k : Nat) : (⟨b, o, none⟩ : Addr).add k = ⟨b, o + k, none⟩ := by
  unfold Addr.add
  split
  · subst_vars; rfl
  · rfl

theorem read_ints {H : Type} {enc : TypeId × Value → H} {w : World} {base : Nat} {spare : Nat → Bool} {held : Bool} {fuel : Nat} {v : Value} {x : DataW H × List MemPlace}
    (h : DataW.trod enc Try.prog w base spare held fuel 22 [v] = some x) : ∃ xs, At w Any (ints xs) v := by
  rcases open_ints Try.underlying22 Try.underlying3 (by kernel_rfl) h with ⟨hcs, _⟩ | ⟨a, len, cap, zs, hcs, _, hl, hm, hz, _, hcell, hwf⟩
  · simp at hcs
    subst hcs
    exact ⟨[], ints_mk (Nat.le_refl 0) (by omega) (fun h => absurd h (by simp))⟩
  · simp at hcs
    subst hcs
    unfold maxLen at hm
    have hzl : len ≤ zs.length := by rw [hz]; split <;> omega
    have hlen : (zs.take len).length = len := by rw [List.length_take]; omega
    have h1 := ints_mk (w := w) (S := Any) (xs := zs.take len) (A := some a) (c := cap) (by omega) (by omega) (fun hp => by
      have hc0 := hcell 0 (by omega)
      have e0 : a.add 0 = a := by simp [Addr.add]
      rw [e0] at hc0
      have e := spot_none hc0
      refine ⟨a.block, a.off, by rw [← e], trivial, fun k hk => ?_⟩
      have hk' : k < zs.length := by omega
      have hc := hcell k hk'
      rw [e, add_none] at hc
      have eg : (zs.take len).getD k 0 = zs.getD k 0 := by
        simp [List.getD, show k < len by omega]
      rw [eg]
      refine ⟨hc, hwf _ ?_⟩
      simp [List.getD, hk'])
    rw [hlen] at h1
    exact ⟨_, h1⟩

theorem read_int {H : Type} {enc : TypeId × Value → H} {w : World} {base : Nat} {spare : Nat → Bool} {held : Bool} {fuel : Nat} {v : Value} {x : DataW H × List MemPlace}
    (h : DataW.trod enc Try.prog w base spare held fuel 3 [v] = some x) : ∃ n : Int, v = .int .i64 n ∧ -9223372036854775808 ≤ n ∧ n ≤ 9223372036854775807 := by
  obtain ⟨n, e, _, wf⟩ := DataW.trod_int Try.underlying3 h
  simp at e
  exact ⟨n, e, wf_bounds wf⟩

/-- A slice that is read: where its elements' cells lie, and their own readings. -/
theorem read_slice {H : Type} {enc : TypeId × Value → H} {P : Program} {w : World} {base : Nat} {spare : Nat → Bool} {held : Bool} {fuel : Nat} {v : Value} {x : DataW H × List MemPlace} {t e : TypeId} {size : Nat}
    (ht : P.underlying t = some (.slice e)) (hsz : P.cellsOf e = size) (hpos : 0 < size) (h : DataW.trod enc P w base spare held fuel t [v] = some x) :
    ∃ A len cap, v = .slice A len cap ∧ len ≤ cap ∧ cap ≤ 9223372036854775807 ∧
      (0 < len → ∃ b off n, fuel = n + 1 ∧ A = some ⟨b, off, none⟩ ∧ ∀ i, i < len → ∃ cs y, cs.length = size ∧ (∀ j, j < size → w.cell? ⟨b, off + (i * size + j), none⟩ = cs[j]?) ∧ DataW.trod enc P w base spare held n e cs = some y) := by
  rcases DataW.trod_slice ht h with ⟨hcs, _⟩ | ⟨a, len, cap, elems, rest, n, rfl, hcs, _, hb, hl, hm, hlen, hel, _, _⟩
  · simp at hcs
    subst hcs
    exact ⟨none, 0, 0, rfl, Nat.le_refl _, by omega, fun h => absurd h (by omega)⟩
  · simp at hcs
    subst hcs
    unfold maxLen at hm
    refine ⟨some a, len, cap, rfl, hl, by omega, fun hp => ?_⟩
    have key : ∀ i, i < len → ∃ cs y, cs.length = size ∧ (∀ j, j < size → w.cell? (a.add (i * size + j)) = cs[j]?) ∧ DataW.trod enc P w base spare held n e cs = some y := by
      intro i hi
      have h1 := hel i hi
      rw [List.getElem?_eq_getElem (by omega), hsz] at h1
      obtain ⟨cs, h2, h3⟩ := Option.bind_eq_some_iff.1 h1
      obtain ⟨_, hcl, hc⟩ := World.cells?_some h2
      exact ⟨cs, _, hcl, fun j hj => by rw [← hc j hj, Go.Deep.add_add], h3⟩
    have e0 : a = ⟨a.block, a.off, none⟩ := by
      obtain ⟨cs, y, hcl, hc, _⟩ := key 0 hp
      have h0 := hc 0 hpos
      rw [List.getElem?_eq_getElem (by omega)] at h0
      have ea : a.add (0 * size + 0) = a := by simp [Addr.add]
      rw [ea] at h0
      exact spot_none h0
    refine ⟨a.block, a.off, n, rfl, by rw [← e0], fun i hi => ?_⟩
    obtain ⟨cs, y, hcl, hc, ht'⟩ := key i hi
    exact ⟨cs, y, hcl, fun j hj => by rw [← hc j hj, e0, add_none], ht'⟩

end Go.Proofs.Ytagnfckihdlhpaa

/-
  Formulas: trees of a kind, a number and the formulas below; how they lie in memory.
-/
namespace Go.Proofs.Ytagnfckihdlhpaa
open Go.RowKit

structure Fm where
  kind : Int
  prop : Int
  kids : List Fm

theorem Fm.induct {p : Fm → Prop} (h : ∀ k q kids, (∀ x ∈ kids, p x) → p ⟨k, q, kids⟩) (f : Fm) : p f := by
  match f with
  | ⟨k, q, kids⟩ => exact h k q kids fun x hx => Fm.induct h x
termination_by f
decreasing_by
  have := List.sizeOf_lt_of_mem hx
  simp only [Fm.mk.sizeOf_spec]
  omega

/-- The datum of a formula's slice of formulas. -/
def Fm.d (f : Fm) : D :=
  match f with
  | ⟨_, _, kids⟩ => .row kids.length (kids.attach.flatMap fun ⟨x, _⟩ => [.lit (.int .i64 x.kind), .lit (.int .i64 x.prop), Fm.d x])
termination_by f
decreasing_by
  rename_i hx
  have := List.sizeOf_lt_of_mem hx
  simp only [Fm.mk.sizeOf_spec]
  omega

/-- The three cells of a formula. -/
def Fm.cells (f : Fm) : List D := [.lit (.int .i64 f.kind), .lit (.int .i64 f.prop), f.d]
/-- The datum of a slice of formulas. -/
def forms (fs : List Fm) : D := .row fs.length (fs.flatMap Fm.cells)

theorem Fm.d_eq (f : Fm) : f.d = forms f.kids := by
  obtain ⟨k, q, kids⟩ := f
  rw [Fm.d]
  show D.row _ _ = D.row _ _
  congr 1
  have : (fun (x : { x // x ∈ kids }) => match x with | ⟨x, _⟩ => [D.lit (.int .i64 x.kind), .lit (.int .i64 x.prop), Fm.d x]) = fun x : { x // x ∈ kids } => Fm.cells x.1 := by
    funext x; rfl
  rw [this]
  conv => rhs; rw [← List.attach_map_subtype_val kids, List.flatMap_map]
theorem Fm.cells_len (f : Fm) : f.cells.length = 3 := rfl

theorem forms_slice {w : World} {S : Nat → Prop} {fs : List Fm} {v : Value} (h : At w S (forms fs) v) : ∃ A c, v = .slice A fs.length c ∧ fs.length ≤ c ∧ c ≤ 9223372036854775807 := h.slice

/-- One element of a slice of formulas. -/
theorem forms_get {w : World} {S : Nat → Prop} {fs : List Fm} {A : Option Addr} {n c k : Nat} (h : At w S (forms fs) (.slice A n c)) (hk : k < fs.length) :
    ∃ b off f v, A = some ⟨b, off, none⟩ ∧ S b ∧ b < w.heap.size ∧ w.cell? ⟨b, off + k * 3, none⟩ = some (.int .i64 f.kind) ∧ w.cell? ⟨b, off + k * 3 + 1, none⟩ = some (.int .i64 f.prop) ∧
      w.cell? ⟨b, off + k * 3 + 2, none⟩ = some v ∧ At w S (forms f.kids) v ∧ Hid (fs[k]? = some f) ∧ -9223372036854775808 ≤ f.kind ∧ f.kind ≤ 9223372036854775807 ∧ -9223372036854775808 ≤ f.prop ∧ f.prop ≤ 9223372036854775807 := by
  have hn : n = fs.length := by obtain ⟨_, _, e, _⟩ := forms_slice h; injection e
  subst hn
  obtain ⟨b, off, e, hs, hlt, hc⟩ := At.cellAt h (by rw [flat_len _ 3 Fm.cells_len]; omega)
  have hf : fs[k]? = some fs[k] := List.getElem?_eq_getElem hk
  have hat : ∀ j, j < 3 → (fs.flatMap Fm.cells)[k * 3 + j]? = (Fm.cells fs[k])[j]? := fun j hj => by
    rw [flat_at _ 3 Fm.cells_len _ _ _ hj, hf]; rfl
  obtain ⟨u0, hu0, ha0⟩ := hc (k * 3 + 0) _ (hat 0 (by omega))
  obtain ⟨u1, hu1, ha1⟩ := hc (k * 3 + 1) _ (hat 1 (by omega))
  obtain ⟨u2, hu2, ha2⟩ := hc (k * 3 + 2) _ (hat 2 (by omega))
  obtain ⟨rfl, w0⟩ := at_lit.1 ha0
  obtain ⟨rfl, w1⟩ := at_lit.1 ha1
  rw [Fm.d_eq] at ha2
  exact ⟨b, off, fs[k], u2, e, hs, hlt, hu0, hu1, hu2, ha2, hf, (wf_bounds w0).1, (wf_bounds w0).2, (wf_bounds w1).1, (wf_bounds w1).2⟩

/-- A slice of formulas from its cells. -/
theorem forms_mk {w : World} {S : Nat → Prop} {fs : List Fm} {A : Option Addr} {c : Nat} (hn : fs.length ≤ c) (hc : c ≤ 9223372036854775807)
    (h : 0 < fs.length → ∃ b off, A = some ⟨b, off, none⟩ ∧ S b ∧ ∀ k f, fs[k]? = some f → ∃ v, w.cell? ⟨b, off + k * 3, none⟩ = some (.int .i64 f.kind) ∧ w.cell? ⟨b, off + k * 3 + 1, none⟩ = some (.int .i64 f.prop) ∧
      w.cell? ⟨b, off + k * 3 + 2, none⟩ = some v ∧ At w S (forms f.kids) v ∧ (Lit.int .i64 f.kind).wf = true ∧ (Lit.int .i64 f.prop).wf = true) :
    At w S (forms fs) (.slice A fs.length c) := by
  refine at_row.2 ⟨A, c, rfl, hn, hc, fun hp => ?_⟩
  rw [flat_len _ 3 Fm.cells_len] at hp
  obtain ⟨b, off, e, hs, hk⟩ := h (by omega)
  refine ⟨b, off, e, hs, fun j hj => ?_⟩
  have hj' : j < fs.length * 3 := by rw [flat_len _ 3 Fm.cells_len] at hj; exact hj
  have hq : j / 3 < fs.length := by omega
  obtain ⟨v, c0, c1, c2, ha, w0, w1⟩ := hk (j / 3) fs[j / 3] (List.getElem?_eq_getElem hq)
  have hat : (fs.flatMap Fm.cells)[j]? = (Fm.cells fs[j / 3])[j % 3]? := by
    have := flat_at Fm.cells 3 Fm.cells_len fs (j / 3) (j % 3) (by omega)
    rw [show j / 3 * 3 + j % 3 = j by omega, List.getElem?_eq_getElem hq] at this
    exact this
  rw [List.getElem?_eq_getElem hj] at hat
  have h3 : j % 3 = 0 ∨ j % 3 = 1 ∨ j % 3 = 2 := by omega
  rcases h3 with h3 | h3 | h3
  · rw [h3] at hat
    simp only [Fm.cells, List.getElem?_cons_zero, Option.some.injEq] at hat
    rw [hat]
    exact ⟨_, by rw [show off + j = off + j / 3 * 3 by omega]; exact c0, at_lit.2 ⟨rfl, w0⟩⟩
  · rw [h3] at hat
    simp only [Fm.cells, List.getElem?_cons_zero, List.getElem?_cons_succ, Option.some.injEq] at hat
    rw [hat]
    exact ⟨_, by rw [show off + j = off + j / 3 * 3 + 1 by omega]; exact c1, at_lit.2 ⟨rfl, w1⟩⟩
  · rw [h3] at hat
    simp only [Fm.cells, List.getElem?_cons_zero, List.getElem?_cons_succ, Option.some.injEq] at hat
    rw [hat, Fm.d_eq]
    exact ⟨_, by rw [show off + j = off + j / 3 * 3 + 2 by omega]; exact c2, ha⟩

/-- How many formulas lie below. -/
def Fm.total (f : Fm) : Nat :=
  match f with
  | ⟨_, _, kids⟩ => kids.length + (kids.attach.map fun ⟨x, _⟩ => Fm.total x).sum
termination_by f
decreasing_by
  rename_i hx
  have := List.sizeOf_lt_of_mem hx
  simp only [Fm.mk.sizeOf_spec]
  omega
def totals (fs : List Fm) : Nat := fs.length + (fs.map Fm.total).sum
theorem Fm.total_eq (f : Fm) : f.total = totals f.kids := by
  obtain ⟨k, q, kids⟩ := f
  rw [Fm.total]
  show _ = kids.length + (kids.map Fm.total).sum
  congr 1
  have : (fun (x : { x // x ∈ kids }) => match x with | ⟨x, _⟩ => Fm.total x) = fun x : { x // x ∈ kids } => Fm.total x.1 := by
    funext x; rfl
  rw [this]
  conv => rhs; rw [← List.attach_map_subtype_val kids, List.map_map]
  rfl

/-- The sum over the first k. -/
def sumTo (fs : List Fm) (k : Nat) : Nat := ((fs.take k).map Fm.total).sum
theorem sumTo_succ {fs : List Fm} {k : Nat} {f : Fm} (h : fs[k]? = some f) : sumTo fs (k + 1) = sumTo fs k + f.total := by
  obtain ⟨h1, rfl⟩ := List.getElem?_eq_some_iff.1 h
  unfold sumTo
  rw [List.take_succ_eq_append_getElem h1]
  simp only [List.map_append, List.map_cons, List.map_nil, List.sum_append, List.sum_cons, List.sum_nil, Nat.add_zero]
theorem sumTo_le (fs : List Fm) (k : Nat) : sumTo fs k ≤ (fs.map Fm.total).sum := by
  unfold sumTo
  conv => rhs; rw [← List.take_append_drop k fs]
  rw [List.map_append, List.sum_append]
  omega
theorem sumTo_all (fs : List Fm) : sumTo fs fs.length = (fs.map Fm.total).sum := by unfold sumTo; rw [List.take_length]

end Go.Proofs.Ytagnfckihdlhpaa

/-
  Terms: trees of a number, a text, a number and the terms below; how they lie in memory. Slices of slices of numbers.
-/
namespace Go.Proofs.Ytagnfckihdlhpaa
open Go.RowKit

structure Tm where
  op : Int
  name : ByteArray
  sort : Int
  args : List Tm

theorem Tm.induct {p : Tm → Prop} (h : ∀ o n s args, (∀ x ∈ args, p x) → p ⟨o, n, s, args⟩) (t : Tm) : p t := by
  match t with
  | ⟨o, n, s, args⟩ => exact h o n s args fun x hx => Tm.induct h x
termination_by t
decreasing_by
  have := List.sizeOf_lt_of_mem hx
  simp only [Tm.mk.sizeOf_spec]
  omega

/-- The datum of a term's slice of terms. -/
def Tm.d (t : Tm) : D :=
  match t with
  | ⟨_, _, _, args⟩ => .row args.length (args.attach.flatMap fun ⟨x, _⟩ => [.lit (.int .i64 x.op), .lit (.string x.name), .lit (.int .i64 x.sort), Tm.d x])
termination_by t
decreasing_by
  rename_i hx
  have := List.sizeOf_lt_of_mem hx
  simp only [Tm.mk.sizeOf_spec]
  omega

/-- The four cells of a term. -/
def Tm.cells (t : Tm) : List D := [.lit (.int .i64 t.op), .lit (.string t.name), .lit (.int .i64 t.sort), t.d]
/-- The datum of a slice of terms. -/
def terms (ts : List Tm) : D := .row ts.length (ts.flatMap Tm.cells)

theorem Tm.d_eq (t : Tm) : t.d = terms t.args := by
  obtain ⟨o, n, s, args⟩ := t
  rw [Tm.d]
  show D.row _ _ = D.row _ _
  congr 1
  have : (fun (x : { x // x ∈ args }) => match x with | ⟨x, _⟩ => [D.lit (.int .i64 x.op), .lit (.string x.name), .lit (.int .i64 x.sort), Tm.d x]) = fun x : { x // x ∈ args } => Tm.cells x.1 := by
    funext x; rfl
  rw [this]
  conv => rhs; rw [← List.attach_map_subtype_val args, List.flatMap_map]
theorem Tm.cells_len (t : Tm) : t.cells.length = 4 := rfl

theorem terms_slice {w : World} {S : Nat → Prop} {ts : List Tm} {v : Value} (h : At w S (terms ts) v) : ∃ A c, v = .slice A ts.length c ∧ ts.length ≤ c ∧ c ≤ 9223372036854775807 := h.slice

/-- What is asked of a term's own values. -/
def Tm.fits (t : Tm) : Prop := -9223372036854775808 ≤ t.op ∧ t.op ≤ 9223372036854775807 ∧ t.name.size ≤ 9223372036854775807 ∧ -9223372036854775808 ≤ t.sort ∧ t.sort ≤ 9223372036854775807

/-- One element of a slice of terms. -/
theorem terms_get {w : World} {S : Nat → Prop} {ts : List Tm} {A : Option Addr} {n c k : Nat} (h : At w S (terms ts) (.slice A n c)) (hk : k < ts.length) :
    ∃ b off t v, A = some ⟨b, off, none⟩ ∧ S b ∧ b < w.heap.size ∧ w.cell? ⟨b, off + k * 4, none⟩ = some (.int .i64 t.op) ∧ w.cell? ⟨b, off + k * 4 + 1, none⟩ = some (.string t.name) ∧
      w.cell? ⟨b, off + k * 4 + 2, none⟩ = some (.int .i64 t.sort) ∧ w.cell? ⟨b, off + k * 4 + 3, none⟩ = some v ∧ At w S (terms t.args) v ∧ Hid (ts[k]? = some t) ∧ t.fits := by
  have hn : n = ts.length := by obtain ⟨_, _, e, _⟩ := terms_slice h; injection e
  subst hn
  obtain ⟨b, off, e, hs, hlt, hc⟩ := At.cellAt h (by rw [flat_len _ 4 Tm.cells_len]; omega)
  have hf : ts[k]? = some ts[k] := List.getElem?_eq_getElem hk
  have hat : ∀ j, j < 4 → (ts.flatMap Tm.cells)[k * 4 + j]? = (Tm.cells ts[k])[j]? := fun j hj => by
    rw [flat_at _ 4 Tm.cells_len _ _ _ hj, hf]; rfl
  obtain ⟨u0, hu0, ha0⟩ := hc (k * 4 + 0) _ (hat 0 (by omega))
  obtain ⟨u1, hu1, ha1⟩ := hc (k * 4 + 1) _ (hat 1 (by omega))
  obtain ⟨u2, hu2, ha2⟩ := hc (k * 4 + 2) _ (hat 2 (by omega))
  obtain ⟨u3, hu3, ha3⟩ := hc (k * 4 + 3) _ (hat 3 (by omega))
  obtain ⟨rfl, w0⟩ := at_lit.1 ha0
  obtain ⟨rfl, w1⟩ := at_lit.1 ha1
  obtain ⟨rfl, w2⟩ := at_lit.1 ha2
  rw [Tm.d_eq] at ha3
  have w1' : ts[k].name.size ≤ 9223372036854775807 := by simp only [okLit, maxLen] at w1; omega
  exact ⟨b, off, ts[k], u3, e, hs, hlt, hu0, hu1, hu2, hu3, ha3, hf, (wf_bounds w0).1, (wf_bounds w0).2, w1', (wf_bounds w2).1, (wf_bounds w2).2⟩

/-- A slice of terms from its cells. -/
theorem terms_mk {w : World} {S : Nat → Prop} {ts : List Tm} {A : Option Addr} {c : Nat} (hn : ts.length ≤ c) (hc : c ≤ 9223372036854775807)
    (h : 0 < ts.length → ∃ b off, A = some ⟨b, off, none⟩ ∧ S b ∧ ∀ k t, ts[k]? = some t → ∃ v, w.cell? ⟨b, off + k * 4, none⟩ = some (.int .i64 t.op) ∧ w.cell? ⟨b, off + k * 4 + 1, none⟩ = some (.string t.name) ∧
      w.cell? ⟨b, off + k * 4 + 2, none⟩ = some (.int .i64 t.sort) ∧ w.cell? ⟨b, off + k * 4 + 3, none⟩ = some v ∧ At w S (terms t.args) v ∧ t.fits) :
    At w S (terms ts) (.slice A ts.length c) := by
  refine at_row.2 ⟨A, c, rfl, hn, hc, fun hp => ?_⟩
  rw [flat_len _ 4 Tm.cells_len] at hp
  obtain ⟨b, off, e, hs, hk⟩ := h (by omega)
  refine ⟨b, off, e, hs, fun j hj => ?_⟩
  have hj' : j < ts.length * 4 := by rw [flat_len _ 4 Tm.cells_len] at hj; exact hj
  have hq : j / 4 < ts.length := by omega
  obtain ⟨v, c0, c1, c2, c3, ha, w0, w1, w2, w3, w4⟩ := hk (j / 4) ts[j / 4] (List.getElem?_eq_getElem hq)
  have hat : (ts.flatMap Tm.cells)[j]? = (Tm.cells ts[j / 4])[j % 4]? := by
    have := flat_at Tm.cells 4 Tm.cells_len ts (j / 4) (j % 4) (by omega)
    rw [show j / 4 * 4 + j % 4 = j by omega, List.getElem?_eq_getElem hq] at this
    exact this
  rw [List.getElem?_eq_getElem hj] at hat
  have h4 : j % 4 = 0 ∨ j % 4 = 1 ∨ j % 4 = 2 ∨ j % 4 = 3 := by omega
  rcases h4 with h4 | h4 | h4 | h4
  · rw [h4] at hat
    simp only [Tm.cells, List.getElem?_cons_zero, Option.some.injEq] at hat
    rw [hat]
    exact ⟨_, by rw [show off + j = off + j / 4 * 4 by omega]; exact c0, at_lit.2 ⟨rfl, WalkArith.wf_i64 ⟨w0, w1⟩⟩⟩
  · rw [h4] at hat
    simp only [Tm.cells, List.getElem?_cons_zero, List.getElem?_cons_succ, Option.some.injEq] at hat
    rw [hat]
    exact ⟨_, by rw [show off + j = off + j / 4 * 4 + 1 by omega]; exact c1, at_lit.2 ⟨rfl, by simp only [okLit, maxLen]; omega⟩⟩
  · rw [h4] at hat
    simp only [Tm.cells, List.getElem?_cons_zero, List.getElem?_cons_succ, Option.some.injEq] at hat
    rw [hat]
    exact ⟨_, by rw [show off + j = off + j / 4 * 4 + 2 by omega]; exact c2, at_lit.2 ⟨rfl, WalkArith.wf_i64 ⟨w3, w4⟩⟩⟩
  · rw [h4] at hat
    simp only [Tm.cells, List.getElem?_cons_zero, List.getElem?_cons_succ, Option.some.injEq] at hat
    rw [hat, Tm.d_eq]
    exact ⟨_, by rw [show off + j = off + j / 4 * 4 + 3 by omega]; exact c3, ha⟩

/-- How much a term weighs: its text, and what lies below. -/
def Tm.total (t : Tm) : Nat :=
  match t with
  | ⟨_, n, _, args⟩ => n.size + (args.length + (args.attach.map fun ⟨x, _⟩ => Tm.total x).sum)
termination_by t
decreasing_by
  rename_i hx
  have := List.sizeOf_lt_of_mem hx
  simp only [Tm.mk.sizeOf_spec]
  omega
def tmTotals (ts : List Tm) : Nat := ts.length + (ts.map Tm.total).sum
theorem Tm.total_eq (t : Tm) : t.total = t.name.size + tmTotals t.args := by
  obtain ⟨o, n, s, args⟩ := t
  rw [Tm.total]
  show _ = n.size + (args.length + (args.map Tm.total).sum)
  congr 2
  have : (fun (x : { x // x ∈ args }) => match x with | ⟨x, _⟩ => Tm.total x) = fun x : { x // x ∈ args } => Tm.total x.1 := by
    funext x; rfl
  rw [this]
  conv => rhs; rw [← List.attach_map_subtype_val args, List.map_map]
  rfl

/-- A sum over the first k of a list. -/
def sumOf {α : Type} (f : α → Nat) (l : List α) (k : Nat) : Nat := ((l.take k).map f).sum
theorem sumOf_succ {α : Type} {f : α → Nat} {l : List α} {k : Nat} {x : α} (h : l[k]? = some x) : sumOf f l (k + 1) = sumOf f l k + f x := by
  obtain ⟨h1, rfl⟩ := List.getElem?_eq_some_iff.1 h
  unfold sumOf
  rw [List.take_succ_eq_append_getElem h1]
  simp only [List.map_append, List.map_cons, List.map_nil, List.sum_append, List.sum_cons, List.sum_nil, Nat.add_zero]
theorem sumOf_le {α : Type} (f : α → Nat) (l : List α) (k : Nat) : sumOf f l k ≤ (l.map f).sum := by
  unfold sumOf
  conv => rhs; rw [← List.take_append_drop k l]
  rw [List.map_append, List.sum_append]
  omega
theorem sumOf_all {α : Type} (f : α → Nat) (l : List α) : sumOf f l l.length = (l.map f).sum := by unfold sumOf; rw [List.take_length]
theorem sumOf_zero {α : Type} (f : α → Nat) (l : List α) : sumOf f l 0 = 0 := by simp [sumOf]
theorem le_sum_of_mem {α : Type} {f : α → Nat} {l : List α} {x : α} (h : x ∈ l) : f x ≤ (l.map f).sum := by
  induction l with
  | nil => cases h
  | cons a l ih =>
    rw [List.map_cons, List.sum_cons]
    rcases List.mem_cons.1 h with rfl | h
    · omega
    · have := ih h; omega

/-- The datum of a [][]int. -/
def rows (xss : List (List Int)) : D := .row xss.length (xss.map ints)
theorem rows_slice {w : World} {S : Nat → Prop} {xss : List (List Int)} {v : Value} (h : At w S (rows xss) v) : ∃ A c, v = .slice A xss.length c ∧ xss.length ≤ c ∧ c ≤ 9223372036854775807 := h.slice
theorem rows_get {w : World} {S : Nat → Prop} {xss : List (List Int)} {A : Option Addr} {n c k : Nat} (h : At w S (rows xss) (.slice A n c)) (hk : k < xss.length) :
    ∃ b off xs v, A = some ⟨b, off, none⟩ ∧ S b ∧ b < w.heap.size ∧ w.cell? ⟨b, off + k, none⟩ = some v ∧ At w S (ints xs) v ∧ Hid (xss[k]? = some xs) := by
  have hn : n = xss.length := by obtain ⟨_, _, e, _⟩ := rows_slice h; injection e
  subst hn
  obtain ⟨b, off, e, hs, hlt, hc⟩ := At.cellAt h (by simp; omega)
  obtain ⟨u, hu, ha⟩ := hc k (ints xss[k]) (by simp [hk])
  exact ⟨b, off, xss[k], u, e, hs, hlt, hu, ha, List.getElem?_eq_getElem hk⟩
theorem rows_mk {w : World} {S : Nat → Prop} {xss : List (List Int)} {A : Option Addr} {c : Nat} (hn : xss.length ≤ c) (hc : c ≤ 9223372036854775807)
    (h : 0 < xss.length → ∃ b off, A = some ⟨b, off, none⟩ ∧ S b ∧ ∀ k xs, xss[k]? = some xs → ∃ v, w.cell? ⟨b, off + k, none⟩ = some v ∧ At w S (ints xs) v) :
    At w S (rows xss) (.slice A xss.length c) := by
  refine at_row.2 ⟨A, c, rfl, hn, hc, fun hp => ?_⟩
  obtain ⟨b, off, e, hs, hk⟩ := h (by simpa using hp)
  refine ⟨b, off, e, hs, fun k hlt => ?_⟩
  have hlt' : k < xss.length := by simpa using hlt
  obtain ⟨v, h1, h2⟩ := hk k xss[k] (List.getElem?_eq_getElem hlt')
  exact ⟨v, h1, by simpa using h2⟩
def rowTotals (xss : List (List Int)) : Nat := xss.length + (xss.map List.length).sum

end Go.Proofs.Ytagnfckihdlhpaa

/-
  The typed data of the program: types, cells, how a datum is cut into cells and made of cells. Printed by wip/den/ty.py.
-/
namespace Go.Proofs.Ytagnfckihdlhpaa.Den
open Go.RowKit

structure Lasso where
  states : List Int
  back : Int
structure Gr where
  states : List Tm
  edges : List (List Int)
  whole : Bool
structure Nd where
  state : Int
  set : Int
structure Sb where
  low : Int
  high : Int
structure So where
  names : List ByteArray
  subs : List Sb
structure Dc where
  args : List Int
  result : Int
structure Opr where
  name : ByteArray
  decls : List Dc
  assoc : Bool
  comm : Bool
  unit : Int
structure Sg where
  sorts : So
  ops : List Opr
structure Bd where
  var : Tm
  to : Tm
structure Od where
  above : List Int
  below : List Int
  kind : List Int
structure Cur where
  b : List Int
  i : Int
  h : Int

/-- Types of flat data. -/
inductive Ty where
  | i | b | s | u
  | sl (t : Ty)
  | n (k : Nat)
  deriving DecidableEq
/-- The structures, by number. -/
def NI : Nat → Type
  | 0 => Lasso
  | 1 => Tm
  | 2 => Fm
  | 3 => Gr
  | 4 => Nd
  | 5 => Sb
  | 6 => So
  | 7 => Dc
  | 8 => Opr
  | 9 => Sg
  | 10 => Bd
  | 11 => Od
  | 12 => Cur
  | _ => Unit
def I : Ty → Type
  | .i => Int
  | .b => Bool
  | .s => ByteArray
  | .u => Int
  | .sl t => List (I t)
  | .n k => NI k

/-- A cell. -/
inductive C where
  | i (x : Int)
  | k (kd : IntKind) (x : Int)
  | b (x : Bool)
  | s (x : ByteArray)
  | l (T : Ty) (xs : List (I T))
  | lc (T : Ty) (xs : List (I T))
  | nil (T : Ty)
  | o (id : Nat)
  | p (id off : Nat)
  | e (id k n : Nat) (T : Ty) (x : I T) (off : Nat)
  | q (T : Ty) (x : I T) (off : Nat)
  | f (fn : Nat) (caps : List C)
  | m (id : Nat)
  | z
  | zs

/-- A datum, cut into cells. -/
def explode : (T : Ty) → I T → List C
  | .i, x => [.i x]
  | .b, x => [.b x]
  | .s, x => [.s x]
  | .u, x => [.k .u8 x]
  | .sl t, xs => [.l t xs]
  | .n 0, x => [.l .i (Lasso.states x), .i (Lasso.back x)]
  | .n 1, x => [.i (Tm.op x), .s (Tm.name x), .i (Tm.sort x), .l (.n 1) (Tm.args x)]
  | .n 2, x => [.i (Fm.kind x), .i (Fm.prop x), .l (.n 2) (Fm.kids x)]
  | .n 3, x => [.l (.n 1) (Gr.states x), .l (.sl .i) (Gr.edges x), .b (Gr.whole x)]
  | .n 4, x => [.i (Nd.state x), .i (Nd.set x)]
  | .n 5, x => [.i (Sb.low x), .i (Sb.high x)]
  | .n 6, x => [.l .s (So.names x), .l (.n 5) (So.subs x)]
  | .n 7, x => [.l .i (Dc.args x), .i (Dc.result x)]
  | .n 8, x => [.s (Opr.name x), .l (.n 7) (Opr.decls x), .b (Opr.assoc x), .b (Opr.comm x), .i (Opr.unit x)]
  | .n 9, x => [.l .s (So.names (Sg.sorts x)), .l (.n 5) (So.subs (Sg.sorts x)), .l (.n 8) (Sg.ops x)]
  | .n 10, x => [.i (Tm.op (Bd.var x)), .s (Tm.name (Bd.var x)), .i (Tm.sort (Bd.var x)), .l (.n 1) (Tm.args (Bd.var x)), .i (Tm.op (Bd.to x)), .s (Tm.name (Bd.to x)), .i (Tm.sort (Bd.to x)), .l (.n 1) (Tm.args (Bd.to x))]
  | .n 11, x => [.l .i (Od.above x), .l .i (Od.below x), .l .i (Od.kind x)]
  | .n 12, x => [.l .u (Cur.b x), .i (Cur.i x), .i (Cur.h x)]
  | .n (_ + 13), _ => []
/-- A datum, made of cells. -/
def implode : (T : Ty) → List C → Option (I T)
  | .i, [.i x] => some x
  | .b, [.b x] => some x
  | .s, [.s x] => some x
  | .u, [.k .u8 x] => some x
  | .sl t, [.l t' xs] => if h : t' = t then some (h ▸ xs) else none
  | .n 0, [.l .i a0, .i a1] => some (Lasso.mk a0 a1)
  | .n 1, [.i a0, .s a1, .i a2, .l (.n 1) a3] => some (Tm.mk a0 a1 a2 a3)
  | .n 2, [.i a0, .i a1, .l (.n 2) a2] => some (Fm.mk a0 a1 a2)
  | .n 3, [.l (.n 1) a0, .l (.sl .i) a1, .b a2] => some (Gr.mk a0 a1 a2)
  | .n 4, [.i a0, .i a1] => some (Nd.mk a0 a1)
  | .n 5, [.i a0, .i a1] => some (Sb.mk a0 a1)
  | .n 6, [.l .s a0, .l (.n 5) a1] => some (So.mk a0 a1)
  | .n 7, [.l .i a0, .i a1] => some (Dc.mk a0 a1)
  | .n 8, [.s a0, .l (.n 7) a1, .b a2, .b a3, .i a4] => some (Opr.mk a0 a1 a2 a3 a4)
  | .n 9, [.l .s a0, .l (.n 5) a1, .l (.n 8) a2] => some (Sg.mk (So.mk a0 a1) a2)
  | .n 10, [.i a0, .s a1, .i a2, .l (.n 1) a3, .i a4, .s a5, .i a6, .l (.n 1) a7] => some (Bd.mk (Tm.mk a0 a1 a2 a3) (Tm.mk a4 a5 a6 a7))
  | .n 11, [.l .i a0, .l .i a1, .l .i a2] => some (Od.mk a0 a1 a2)
  | .n 12, [.l .u a0, .i a1, .i a2] => some (Cur.mk a0 a1 a2)
  | _, _ => none
/-- How many cells a datum has. -/
def szT : Ty → Nat
  | .i | .b | .s | .u | .sl _ => 1
  | .n 0 => 2
  | .n 1 => 4
  | .n 2 => 3
  | .n 3 => 3
  | .n 4 => 2
  | .n 5 => 2
  | .n 6 => 2
  | .n 7 => 2
  | .n 8 => 5
  | .n 9 => 3
  | .n 10 => 8
  | .n 11 => 3
  | .n 12 => 3
  | .n (_ + 13) => 0
/-- The zero datum. -/
def zeroT : (T : Ty) → Option (I T)
  | .i => some (0 : Int)
  | .b => some false
  | .s => some ByteArray.empty
  | .u => some (0 : Int)
  | .sl _ => some []
  | .n 0 => some (Lasso.mk [] 0)
  | .n 1 => some (Tm.mk 0 ByteArray.empty 0 [])
  | .n 2 => some (Fm.mk 0 0 [])
  | .n 3 => some (Gr.mk [] [] false)
  | .n 4 => some (Nd.mk 0 0)
  | .n 5 => some (Sb.mk 0 0)
  | .n 6 => some (So.mk [] [])
  | .n 7 => some (Dc.mk [] 0)
  | .n 8 => some (Opr.mk ByteArray.empty [] false false 0)
  | .n 9 => some (Sg.mk (So.mk [] []) [])
  | .n 10 => some (Bd.mk (Tm.mk 0 ByteArray.empty 0 []) (Tm.mk 0 ByteArray.empty 0 []))
  | .n 11 => some (Od.mk [] [] [])
  | .n 12 => some (Cur.mk [] 0 0)
  | .n (_ + 13) => none

theorem explode_len (T : Ty) (hT : 0 < szT T) (x : I T) : (explode T x).length = szT T := by
  cases T with
  | n k =>
    match k with
    | 0 | 1 | 2 | 3 | 4 | 5 | 6 | 7 | 8 | 9 | 10 | 11 | 12 => rfl
    | k + 13 => simp [szT] at hT
  | _ => rfl
theorem implode_explode {T : Ty} {cs : List C} {x : I T} (h : implode T cs = some x) : explode T x = cs := by
  unfold implode at h
  split at h <;> first | (cases h; rfl) | (cases h; done) | skip
  · split at h
    · rename_i e; subst e; cases h; rfl
    · cases h
end Go.Proofs.Ytagnfckihdlhpaa.Den

/-
  Abstract cell values, objects that a call owns, and how they lie in memory: the ground of the abstract program logic. For any program.
-/
namespace Go.Proofs.Ytagnfckihdlhpaa.Abs
open Go.RowKit

/-- An abstract cell value. -/
inductive V where
  | lit (v : Value)
  | imm (s : Nat) (es : List (List V))
  | immc (s : Nat) (es : List (List V))
  | own (id off len : Nat)
  | ptr (id k o : Nat)
  | iptr (cs : List V)
  | clo (fn : Fn) (cap : List V)
  | mp (id : Nat)

/-- An abstract slot. -/
inductive AV where
  | one (v : V)
  | agg (vs : List V)
  | tup (xs : List AV)
  | dead

/-- An object that the call owns. -/
inductive Ob where
  | row (s : Nat) (es : List (List V))
  | map (kvs : List (ByteArray × List V))

/-- A map's entry. -/
def kget : List (ByteArray × List V) → ByteArray → Option (List V)
  | [], _ => none
  | (a, b) :: rest, s => if a = s then some b else kget rest s

structure Inf where
  block : Nat
  base : Nat
  cap : Nat
  size : Nat

abbrev Env := List (Nat × AV)
abbrev Heap := List (Option Ob)

def okLit : Value → Prop
  | .bool _ => True
  | .int k n => (Lit.int k n).wf = true
  | .string s => s.size ≤ maxLen
  | .slice none 0 0 => True
  | .pointer none => True
  | .map none => True
  | .nilFunc => True
  | .nilIface => True
  | _ => False

/-- The value c is what v says, in the world w: immutable data in blocks of I, own objects by ι. Immutable data hold no own objects. -/
inductive VR (I : Nat → Prop) (w : World) : List Inf → V → Value → Prop
  | lit {ι : List Inf} {u : Value} (h : okLit u) : VR I w ι (.lit u) u
  | imm0 {ι : List Inf} {s c : Nat} {A : Option Addr} (hc : c ≤ 9223372036854775807) : VR I w ι (.imm s []) (.slice A 0 c)
  | imm {ι : List Inf} {s b off c : Nat} {es : List (List V)} {f : Nat → Nat → Value} (hs : ∀ e ∈ es, e.length = s) (hc : es.length ≤ c) (hm : c ≤ 9223372036854775807) (hI : I b)
      (hcell : ∀ k j, k < es.length → j < s → w.cell? ⟨b, off + (k * s + j), none⟩ = some (f k j))
      (hr : ∀ (k : Nat) (hk : k < es.length) (j : Nat) (hj : j < es[k].length), VR I w [] es[k][j] (f k j)) : VR I w ι (.imm s es) (.slice (some ⟨b, off, none⟩) es.length c)
  | immc0 {ι : List Inf} {s : Nat} {A : Option Addr} : VR I w ι (.immc s []) (.slice A 0 0)
  | immc {ι : List Inf} {s b off : Nat} {es : List (List V)} {f : Nat → Nat → Value} (hs : ∀ e ∈ es, e.length = s) (hm : es.length ≤ 9223372036854775807) (hI : I b)
      (hcell : ∀ k j, k < es.length → j < s → w.cell? ⟨b, off + (k * s + j), none⟩ = some (f k j))
      (hr : ∀ (k : Nat) (hk : k < es.length) (j : Nat) (hj : j < es[k].length), VR I w [] es[k][j] (f k j)) : VR I w ι (.immc s es) (.slice (some ⟨b, off, none⟩) es.length es.length)
  | own {ι : List Inf} {id off len c : Nat} {inf : Inf} (hi : ι[id]? = some inf) (hl : len ≤ c) (hcap : off + c = inf.cap) (hm : c ≤ 9223372036854775807) :
      VR I w ι (.own id off len) (.slice (some ⟨inf.block, inf.base + off * inf.size, none⟩) len c)
  | own0 {ι : List Inf} {id off o : Nat} {inf : Inf} (hi : ι[id]? = some inf) (hcap : off = inf.cap) : VR I w ι (.own id off 0) (.slice (some ⟨inf.block, o, none⟩) 0 0)
  | ptr {ι : List Inf} {id k o : Nat} {inf : Inf} (hi : ι[id]? = some inf) : VR I w ι (.ptr id k o) (.pointer (some ⟨inf.block, inf.base + (k * inf.size + o), none⟩))
  | iptr {ι : List Inf} {b off : Nat} {cs : List V} {f : Nat → Value} (hI : I b) (hcell : ∀ j, j < cs.length → w.cell? ⟨b, off + j, none⟩ = some (f j))
      (hr : ∀ (j : Nat) (hj : j < cs.length), VR I w [] cs[j] (f j)) : VR I w ι (.iptr cs) (.pointer (some ⟨b, off, none⟩))
  | clo {ι : List Inf} {fn : Fn} {cap : List V} {cs : Array Value} {f : Nat → Value} (hl : cs.size = cap.length) (hcs : ∀ j, j < cap.length → cs[j]? = some (f j))
      (hr : ∀ (j : Nat) (hj : j < cap.length), VR I w ι cap[j] (f j)) : VR I w ι (.clo fn cap) (.func fn #[] cs)
  | mp {ι : List Inf} {id : Nat} {inf : Inf} (hi : ι[id]? = some inf) : VR I w ι (.mp id) (.map (some inf.block))

inductive AR (ι : List Inf) (I : Nat → Prop) (w : World) : AV → Value → Prop
  | one {v : V} {c : Value} (h : VR I w ι v c) : AR ι I w (.one v) c
  | agg {vs : List V} {cs : Array Value} {f : Nat → Value} (hl : cs.size = vs.length) (hcs : ∀ j, j < vs.length → cs[j]? = some (f j))
      (hr : ∀ j (hj : j < vs.length), VR I w ι vs[j] (f j)) : AR ι I w (.agg vs) (.agg cs)
  | tup {xs : List AV} {cs : Array Value} {f : Nat → Value} (hl : cs.size = xs.length) (hcs : ∀ j, j < xs.length → cs[j]? = some (f j))
      (hr : ∀ j (hj : j < xs.length), AR ι I w xs[j] (f j)) : AR ι I w (.tup xs) (.tuple cs)
  | dead {c : Value} : AR ι I w .dead c

/-- ι' knows all that ι knows. -/
def Grows (ι ι' : List Inf) : Prop := ∀ (id : Nat) (inf : Inf), ι[id]? = some inf → ι'[id]? = some inf
theorem Grows.refl (ι : List Inf) : Grows ι ι := fun _ _ h => h
theorem Grows.trans {a b c : List Inf} (h : Grows a b) (k : Grows b c) : Grows a c := fun i x hx => k i x (h i x hx)
theorem Grows.app (ι l : List Inf) : Grows ι (ι ++ l) := fun id inf h => by
  have hlt := (List.getElem?_eq_some_iff.1 h).1
  rw [List.getElem?_append_left hlt]; exact h

/-- What immutable data need: the cells of the blocks of I are kept. -/
structure Keeps (I I' : Nat → Prop) (w w' : World) : Prop where
  imm : ∀ b, I b → I' b
  cell : ∀ b o, I b → w'.cell? ⟨b, o, none⟩ = w.cell? ⟨b, o, none⟩
theorem Keeps.refl (I : Nat → Prop) (w : World) : Keeps I I w w := ⟨fun _ h => h, fun _ _ _ => rfl⟩
theorem Keeps.trans {I J K : Nat → Prop} {u v w : World} (h : Keeps I J u v) (k : Keeps J K v w) : Keeps I K u w :=
  ⟨fun b hb => k.imm b (h.imm b hb), fun b o hb => (k.cell b o (h.imm b hb)).trans (h.cell b o hb)⟩

theorem VR.keep {ι ι' : List Inf} {I I' : Nat → Prop} {w w' : World} (hg : Grows ι ι') (hk : Keeps I I' w w') {v : V} {c : Value} (h : VR I w ι v c) : VR I' w' ι' v c := by
  induction h generalizing ι' with
  | lit h => exact .lit h
  | imm0 hc => exact .imm0 hc
  | imm hs hc hm hI hcell hr ih => exact .imm hs hc hm (hk.imm _ hI) (fun k j h1 h2 => (hk.cell _ _ hI).trans (hcell k j h1 h2)) (fun k hk j hj => ih k hk j hj (Grows.refl _))
  | immc0 => exact .immc0
  | immc hs hm hI hcell hr ih => exact .immc hs hm (hk.imm _ hI) (fun k j h1 h2 => (hk.cell _ _ hI).trans (hcell k j h1 h2)) (fun k hk j hj => ih k hk j hj (Grows.refl _))
  | own hi hl hcap hm => exact .own (hg _ _ hi) hl hcap hm
  | own0 hi hcap => exact .own0 (hg _ _ hi) hcap
  | ptr hi => exact .ptr (hg _ _ hi)
  | iptr hI hcell hr ih => exact .iptr (hk.imm _ hI) (fun j h1 => (hk.cell _ _ hI).trans (hcell j h1)) (fun j hj => ih j hj (Grows.refl _))
  | clo hl hcs hr ih => exact .clo hl hcs (fun j hj => ih j hj hg)
  | mp hi => exact .mp (hg _ _ hi)

theorem VR.up {ι : List Inf} {I : Nat → Prop} {w : World} {v : V} {c : Value} (h : VR I w [] v c) : VR I w ι v c := h.keep (fun _ _ h => by simp at h) (Keeps.refl _ _)

/-- Data that hold no own objects. -/
def V.flat : V → Bool
  | .lit _ | .imm _ _ | .immc _ _ | .iptr _ => true
  | .clo _ [] => true
  | _ => false
theorem VR.free {ι ι' : List Inf} {I : Nat → Prop} {w : World} {v : V} {c : Value} (hf : v.flat = true) (h : VR I w ι v c) : VR I w ι' v c := by
  cases h with
  | lit h => exact .lit h
  | imm0 hc => exact .imm0 hc
  | imm hs hc hm hI hcell hr => exact .imm hs hc hm hI hcell hr
  | immc0 => exact .immc0
  | immc hs hm hI hcell hr => exact .immc hs hm hI hcell hr
  | iptr hI hcell hr => exact .iptr hI hcell hr
  | @clo _ _ cap _ _ hl hcs hr =>
    cases cap with
    | nil => exact .clo hl hcs (fun j hj => by simp at hj)
    | cons x xs => simp [V.flat] at hf
  | own hi hl hcap hm => simp [V.flat] at hf
  | own0 hi hcap => simp [V.flat] at hf
  | ptr hi => simp [V.flat] at hf
  | mp hi => simp [V.flat] at hf
theorem AR.keep {ι ι' : List Inf} {I I' : Nat → Prop} {w w' : World} (hg : Grows ι ι') (hk : Keeps I I' w w') {v : AV} {c : Value} (h : AR ι I w v c) : AR ι' I' w' v c := by
  induction h with
  | one h => exact .one (h.keep hg hk)
  | agg hl hcs hr => exact .agg hl hcs (fun j hj => (hr j hj).keep hg hk)
  | tup hl hcs hr ih => exact .tup hl hcs ih
  | dead => exact .dead

/-- How one own object lies there. -/
def OR (ι : List Inf) (I : Nat → Prop) (w : World) (inf : Inf) : Ob → Prop
  | .row s es => ∃ cur t, w.heap[inf.block]? = some (.cells cur t (0, 0)) ∧ inf.size = s ∧ cur.size = inf.base + inf.cap * s ∧ inf.cap ≤ 9223372036854775807 ∧ es.length ≤ inf.cap ∧ (∀ e ∈ es, e.length = s) ∧
      ∀ (k : Nat) (hk : k < es.length) (j : Nat) (hj : j < es[k].length), ∃ u, cur[inf.base + (k * s + j)]? = some u ∧ VR I w ι es[k][j] u
  | .map kvs => ∃ en clock, w.heap[inf.block]? = some (.map en clock) ∧ en.size ≤ kvs.length ∧
      (∀ s vs, kget kvs s = some vs → ∃ e ∈ en, e.key = .string s ∧ (∃ f : Nat → Value, e.val.cells.size = vs.length ∧ (∀ j, j < vs.length → e.val.cells[j]? = some (f j)) ∧ ∀ j (hj : j < vs.length), VR I w ι vs[j] (f j))) ∧
      (∀ e ∈ en, ∃ s, e.key = .string s ∧ (kget kvs s).isSome) ∧ en.toList.Pairwise (fun x y => ∀ s, x.key = .string s → y.key ≠ .string s)

theorem OR.keep {ι ι' : List Inf} {I I' : Nat → Prop} {w w' : World} (hg : Grows ι ι') (hk : Keeps I I' w w') {inf : Inf} {o : Ob} (h : OR ι I w inf o) (hb : w'.heap[inf.block]? = w.heap[inf.block]?) : OR ι' I' w' inf o := by
  cases o with
  | row s es =>
    obtain ⟨cur, t, h1, h2, h3, h4, h5, h6, h7⟩ := h
    refine ⟨cur, t, hb.trans h1, h2, h3, h4, h5, h6, fun k hk' j hj => ?_⟩
    obtain ⟨u, hu, hv⟩ := h7 k hk' j hj
    exact ⟨u, hu, hv.keep hg hk⟩
  | map kvs =>
    obtain ⟨en, clock, h1, h2, h3, h4, h5⟩ := h
    refine ⟨en, clock, hb.trans h1, h2, fun s vs hs => ?_, h4, h5⟩
    obtain ⟨e, he, hkey, f, f1, f2, f3⟩ := h3 s vs hs
    exact ⟨e, he, hkey, f, f1, f2, fun j hj => (f3 j hj).keep hg hk⟩

/-- The own objects lie in blocks of their own. -/
structure HR (ι : List Inf) (I : Nat → Prop) (w : World) (h : Heap) : Prop where
  len : h.length = ι.length
  obj : ∀ (id : Nat) (o : Ob) (inf : Inf), h[id]? = some (some o) → ι[id]? = some inf → OR ι I w inf o
  off : ∀ (id : Nat) (o : Ob) (inf : Inf), h[id]? = some (some o) → ι[id]? = some inf → ¬ I inf.block
  inj : ∀ (id id' : Nat) (o o' : Ob) (inf inf' : Inf), h[id]? = some (some o) → h[id']? = some (some o') → ι[id]? = some inf → ι[id']? = some inf' → inf.block = inf'.block → id = id'

/-- Where a call stands: the world at its entry, which old blocks it may write, its immutable blocks and own objects at entry, the number of its slots. -/
structure Cx where
  w0 : World
  pass : Nat → Prop
  ι0 : List Inf
  n : Nat
  I0 : Nat → Prop

structure Rel (E : Cx) (L : Env) (h : Heap) (ι : List Inf) (I : Nat → Prop) (a : Act) (w : World) : Prop where
  slots : ∀ t v, L.lookup t = some v → ∃ c, a.tmps[t]? = some c ∧ AR ι I w v c
  heap : HR ι I w h
  imm : ∀ b, I b → b < w.heap.size
  immlo : ∀ b, I b → E.I0 b ∨ E.pass b ∨ E.w0.heap.size ≤ b
  pre : Grows E.ι0 ι
  os : w.os = E.w0.os
  tape : w.tape = E.w0.tape
  output : w.output = E.w0.output
  grown : E.w0.heap.size ≤ w.heap.size
  frame : ∀ b, b < E.w0.heap.size → ¬ E.pass b → w.heap[b]? = E.w0.heap[b]?
  mine : ∀ (id : Nat) (o : Ob) (inf : Inf), h[id]? = some (some o) → ι[id]? = some inf → E.pass inf.block ∨ E.w0.heap.size ≤ inf.block
  defers : a.defers = []
  size : a.tmps.size = E.n

/-- More is known of the slots than is asked. -/
def Sub (L L' : Env) : Prop := ∀ t v, L.lookup t = some v → L'.lookup t = some v
theorem Rel.weaken {E : Cx} {L L' : Env} {h : Heap} {ι : List Inf} {I : Nat → Prop} {a : Act} {w : World} (r : Rel E L h ι I a w) (hs : Sub L' L) : Rel E L' h ι I a w :=
  { r with slots := fun t v hv => r.slots t v (hs t v hv) }

/-- Writing a slot. -/
theorem Rel.put {E : Cx} {L : Env} {h : Heap} {ι : List Inf} {I : Nat → Prop} {a : Act} {w : World} (r : Rel E L h ι I a w) {d : Nat} (hd : d < E.n) {v : AV} {c : Value} (hc : AR ι I w v c) :
    Rel E ((d, v) :: L) h ι I (a.put (some d) c) w :=
  { r with
    slots := fun t u hu => by
      rw [List.lookup_cons] at hu
      by_cases e : t = d
      · subst e
        simp at hu
        subst hu
        exact ⟨c, by simp [Act.put, r.size, hd], hc⟩
      · have e' : (t == d) = false := by simpa using e
        rw [e'] at hu
        obtain ⟨c', h1, h2⟩ := r.slots t u hu
        exact ⟨c', by simp only [Act.put]; rw [Array.getElem?_setIfInBounds_ne (by omega)]; exact h1, h2⟩
    defers := r.defers
    size := by simp [Act.put, r.size] }

def okLitB : Value → Bool
  | .bool _ => true
  | .int k n => (Lit.int k n).wf
  | .string s => decide (s.size ≤ maxLen)
  | .slice none 0 0 => true
  | .pointer none => true
  | .map none => true
  | .nilFunc => true
  | .nilIface => true
  | _ => false
theorem okLit_of {v : Value} (h : okLitB v = true) : okLit v := by
  unfold okLitB at h
  unfold okLit
  split at h <;> simp_all

/-- An operand. -/
def constAV : Value → Option AV
  | .agg cs => if cs.toList.all okLitB then some (.agg (cs.toList.map V.lit)) else none
  | v => if okLitB v then some (.one (.lit v)) else none
def ev (L : Env) : Operand → Option AV
  | .tmp t => L.lookup t
  | .const v => constAV v
  | .func f => some (.one (.clo (.func f) []))
  | .global _ => none

theorem constAV_ok {ι : List Inf} {I : Nat → Prop} {w : World} {u : Value} {v : AV} (h : constAV u = some v) : AR ι I w v u := by
  unfold constAV at h
  split at h
  · rename_i cs
    split at h
    · rename_i hall
      cases h
      rw [List.all_eq_true] at hall
      refine .agg (f := fun j => cs.getD j undef) (by simp) (fun j hj => by simp at hj; simp [hj]) (fun j hj => ?_)
      have hj' : j < cs.size := by simpa using hj
      simp only [List.getElem_map, Array.getElem_toList]
      have := hall cs[j] (by simp)
      have e : cs.getD j undef = cs[j] := by simp [hj']
      rw [e]
      exact .lit (okLit_of this)
    · cases h
  · split at h
    · rename_i hok
      cases h
      exact .one (.lit (okLit_of hok))
    · cases h

theorem Rel.ev {E : Cx} {L : Env} {h : Heap} {ι : List Inf} {I : Nat → Prop} {a : Act} {w : World} (r : Rel E L h ι I a w) {x : Operand} {v : AV} (hv : ev L x = some v) : AR ι I w v (a.eval x) := by
  cases x with
  | tmp t =>
    obtain ⟨c, h1, h2⟩ := r.slots t v hv
    have : a.eval (.tmp t) = c := by simp [Act.eval, h1]
    rw [this]; exact h2
  | const u => exact constAV_ok hv
  | func f =>
    simp [Abs.ev] at hv
    subst hv
    exact .one (.clo (f := fun _ => undef) rfl (fun j hj => by simp at hj) (fun j hj => by simp at hj))
  | global g => simp [Abs.ev] at hv

end Go.Proofs.Ytagnfckihdlhpaa.Abs

/-
  The abstract program logic: control, contracts of functions, calls. For any program.
-/
namespace Go.Proofs.Ytagnfckihdlhpaa.Abs
open Go.RowKit

def lift (E : Cx) (Q : Exit → Env → Heap → Prop) : Exit → Act → World → Prop := fun e a w => ∃ L h ι I, Q e L h ∧ Rel E L h ι I a w
theorem lift_mono {E : Cx} {Q Q' : Exit → Env → Heap → Prop} (hq : ∀ e L h, Q e L h → Q' e L h) {e : Exit} {a : Act} {w : World} (h : lift E Q e a w) : lift E Q' e a w := by
  obtain ⟨L, hp, ι, I, q, r⟩ := h
  exact ⟨L, hp, ι, I, hq _ _ _ q, r⟩

/-- The abstract weakest precondition of code. -/
structure aw (P : Program) (c : Code) (E : Cx) (Q : Exit → Env → Heap → Prop) (L : Env) (h : Heap) : Prop where
  get : ∀ ι I a w, Rel E L h ι I a w → c.wp P (lift E Q) a w

def thenQ (next : Env → Heap → Prop) (Q : Exit → Env → Heap → Prop) : Exit → Env → Heap → Prop
  | .normal, L, h => next L h
  | e, L, h => Q e L h
def blockQ (id : Nat) (Q : Exit → Env → Heap → Prop) : Exit → Env → Heap → Prop
  | .exit id', L, h => if id' = id then Q .normal L h else Q (.exit id') L h
  | e, L, h => Q e L h

section
variable {P : Program} {E : Cx} {Q Q' : Exit → Env → Heap → Prop} {L : Env} {h : Heap}

theorem aw_mono {c : Code} (hq : ∀ e L h, Q e L h → Q' e L h) (hh : aw P c E Q L h) : aw P c E Q' L h :=
  ⟨fun ι I a w r => wp_mono (hh.get ι I a w r) fun _ _ _ => lift_mono hq⟩
theorem aw_weaken {c : Code} {L' : Env} (hs : Sub L' L) (hh : aw P c E Q L' h) : aw P c E Q L h := ⟨fun ι I a w r => hh.get ι I a w (r.weaken hs)⟩
theorem aw_app {c : Code} (hh : aw P c E Q L (h ++ [])) : aw P c E Q L h := by rw [List.append_nil] at hh; exact hh
theorem aw_skip (hh : Q .normal L h) : aw P .skip E Q L h := ⟨fun ι I _ _ r => wp_skip ⟨L, h, ι, I, hh, r⟩⟩
theorem aw_ret (hh : Q .ret L h) : aw P .ret E Q L h := ⟨fun ι I _ _ r => wp_ret ⟨L, h, ι, I, hh, r⟩⟩
theorem aw_exit {id : Nat} (hh : Q (.exit id) L h) : aw P (.exit id) E Q L h := ⟨fun ι I _ _ r => wp_exit ⟨L, h, ι, I, hh, r⟩⟩
theorem aw_seq {x y : Code} (hh : aw P x E (thenQ (aw P y E Q) Q) L h) : aw P (.seq x y) E Q L h := by
  refine ⟨fun ι I a w r => ?_⟩
  refine wp_seq (wp_mono (hh.get ι I a w r) ?_)
  rintro e a' w' ⟨L', h', ι', I', q, r'⟩
  cases e with
  | normal => exact aw.get q ι' I' a' w' r'
  | _ => exact ⟨L', h', ι', I', q, r'⟩
theorem aw_block {id : Nat} {c : Code} (hh : aw P c E (blockQ id Q) L h) : aw P (.block id c) E Q L h := by
  refine ⟨fun ι I a w r => ?_⟩
  refine wp_block (wp_mono (hh.get ι I a w r) ?_)
  rintro e a' w' ⟨L', h', ι', I', q, r'⟩
  cases e with
  | exit id' =>
    simp only [Exit.inBlock]
    simp only [blockQ] at q
    split
    · rename_i e; rw [if_pos e] at q; exact ⟨L', h', ι', I', q, r'⟩
    · rename_i e; rw [if_neg e] at q; exact ⟨L', h', ι', I', q, r'⟩
  | _ => exact ⟨L', h', ι', I', q, r'⟩

theorem AR.bool {ι : List Inf} {I : Nat → Prop} {w : World} {b : Bool} {c : Value} (h : AR ι I w (.one (.lit (.bool b))) c) : c = .bool b := by
  cases h with
  | one h => cases h with | lit h => rfl

theorem aw_cond {c : Operand} {x y : Code} {t : Bool} (hc : ev L c = some (.one (.lit (.bool t)))) (ht : t = true → aw P x E Q L h) (hf : t = false → aw P y E Q L h) : aw P (.cond c x y) E Q L h := by
  refine ⟨fun ι I a w r => ?_⟩
  exact wp_cond_split (r.ev hc).bool (fun e => (ht e).get ι I a w r) (fun e => (hf e).get ι I a w r)

theorem aw_loop {c : Code} (Inv : Nat → Env → Heap → Prop) {n : Nat} {L0 : Env} (hs : Sub L0 L) (h0 : Inv n L0 h)
    (round : ∀ n L h, Inv n L h → aw P c E (thenQ (fun L' h' => ∃ m L'', m < n ∧ Sub L'' L' ∧ Inv m L'' h') Q) L h) : aw P (.loop c) E Q L h := by
  refine ⟨fun ι I a w r => ?_⟩
  intro b k cs
  have key : ∀ n L h ι I a w, Inv n L h → Rel E L h ι I a w →
      ∃ e a' w', lift E Q e a' w' ∧ Arrives P (lone (b.at a (.code c :: .inLoop c :: k)) cs w) b k cs e a' w' := by
    intro n
    induction n using Nat.strongRecOn with
    | _ n ih =>
      intro L h ι I a w hI r
      obtain ⟨e, a₁, w₁, ⟨L1, h1, ι1, I1, q, r1⟩, harr⟩ := (round n L h hI).get ι I a w r b (.inLoop c :: k) cs
      cases e with
      | normal =>
        obtain ⟨m, L2, hlt, hs2, hI2⟩ := q
        obtain ⟨e₂, a₂, w₂, hq₂, harr₂⟩ := ih m hlt L2 h1 ι1 I1 a₁ w₁ hI2 (r1.weaken hs2)
        exact ⟨e₂, a₂, w₂, hq₂, .of_steps (Steps.trans harr (.one step_inLoop)) harr₂⟩
      | exit id => exact ⟨_, a₁, w₁, ⟨L1, h1, ι1, I1, q, r1⟩, .pass (x := .inLoop c) rfl (fun _ _ => .inl (by simp)) harr⟩
      | goto l => exact ⟨_, a₁, w₁, ⟨L1, h1, ι1, I1, q, r1⟩, .pass (x := .inLoop c) rfl (fun _ _ => .inl (by simp)) harr⟩
      | ret => exact ⟨_, a₁, w₁, ⟨L1, h1, ι1, I1, q, r1⟩, .pass (x := .inLoop c) rfl (fun _ _ => .inl (by simp)) harr⟩
      | panic ch => exact ⟨_, a₁, w₁, ⟨L1, h1, ι1, I1, q, r1⟩, .pass (x := .inLoop c) rfl (fun _ _ => .inl (by simp)) harr⟩
      | outgrown => exact ⟨_, a₁, w₁, ⟨L1, h1, ι1, I1, q, r1⟩, .pass (x := .inLoop c) rfl (fun _ _ => .inl (by simp)) harr⟩
  obtain ⟨e, a', w', hq, harr⟩ := key n L0 h ι I a w h0 (r.weaken hs)
  exact ⟨e, a', w', hq, .of_steps (.one step_loop) harr⟩

theorem sub_nil (L : Env) : Sub [] L := fun t v h => by simp at h
theorem sub_cons {t : Nat} {v : AV} {L' : Env} (h1 : L.lookup t = some v) (h2 : Sub L' L) : Sub ((t, v) :: L') L := by
  intro u x hx
  rw [List.lookup_cons] at hx
  by_cases e : u = t
  · subst e; simp at hx; subst hx; exact h1
  · have e' : (u == t) = false := by simpa using e
    rw [e'] at hx
    exact h2 u x hx
theorem sub_refl (L : Env) : Sub L L := fun _ _ h => h
end

theorem lt_n {d n m : Nat} (h : n = m) (hd : Nat.blt d m = true) : d < n := by subst h; exact of_eq_true ((Nat.blt_eq).symm.trans (by simp [hd]))

theorem thenN {next : Env → Heap → Prop} {Q : Exit → Env → Heap → Prop} {L : Env} {h : Heap} (k : next L h) : thenQ next Q .normal L h := k
theorem thenR {next : Env → Heap → Prop} {Q : Exit → Env → Heap → Prop} {L : Env} {h : Heap} (k : Q .ret L h) : thenQ next Q .ret L h := k
theorem thenE {next : Env → Heap → Prop} {Q : Exit → Env → Heap → Prop} {L : Env} {h : Heap} {id : Nat} (k : Q (.exit id) L h) : thenQ next Q (.exit id) L h := k
theorem blockN {id : Nat} {Q : Exit → Env → Heap → Prop} {L : Env} {h : Heap} (k : Q .normal L h) : blockQ id Q .normal L h := k
theorem blockR {id : Nat} {Q : Exit → Env → Heap → Prop} {L : Env} {h : Heap} (k : Q .ret L h) : blockQ id Q .ret L h := k
theorem blockE {id : Nat} {Q : Exit → Env → Heap → Prop} {L : Env} {h : Heap} (k : Q .normal L h) : blockQ id Q (.exit id) L h := by simp only [blockQ, if_true]; exact k
theorem blockX {id id' : Nat} {Q : Exit → Env → Heap → Prop} {L : Env} {h : Heap} (hne : (id' == id) = false) (k : Q (.exit id') L h) : blockQ id Q (.exit id') L h := by
  have : ¬ id' = id := by simpa using hne
  simp only [blockQ, this, if_false]; exact k
theorem lookup_app {L Lf : Env} {t : Nat} {v : AV} (h : L.lookup t = some v) : (L ++ Lf).lookup t = some v := by
  induction L with
  | nil => simp at h
  | cons p L ih =>
    obtain ⟨k, x⟩ := p
    rw [List.cons_append, List.lookup_cons]
    rw [List.lookup_cons] at h
    split
    · rename_i e; rw [e] at h; exact h
    · rename_i e; rw [e] at h; exact ih h
theorem sub_app (L Lf : Env) : Sub L (L ++ Lf) := fun _ _ h => lookup_app h
theorem Rel.low {E : Cx} {L Lf : Env} {h : Heap} {ι : List Inf} {I : Nat → Prop} {a : Act} {w : World} (r : Rel E (L ++ Lf) h ι I a w) : Rel E L h ι I a w := r.weaken (sub_app L Lf)

/-- One operation, run; other slots (Lf) stay. -/
structure ar (P : Program) (o : Oper) (E : Cx) (K : Env → Heap → Prop) (L : Env) (h : Heap) : Prop where
  get : ∀ Lf ι I a w, Rel E (L ++ Lf) h ι I a w → o.wp P a w (fun a' w' => ∃ L' h' ι' I', K L' h' ∧ Rel E (L' ++ Lf) h' ι' I' a' w') (fun _ _ _ => False)

/-- The operations of a region that does not draw. -/
structure ao (P : Program) (ops : Array Oper) (rest : List Oper) (E : Cx) (K : Env → Heap → Prop) (L : Env) (h : Heap) : Prop where
  get : ∀ ι I a w (Q : Exit → Act → World → Prop), (∀ a' w', (∃ L' h' ι' I', K L' h' ∧ Rel E L' h' ι' I' a' w') → Q .normal a' w') → Rel E L h ι I a w → wpList P ops Q rest a w

theorem wp_mono2 {P : Program} {o : Oper} {a : Act} {w : World} {K K' : Act → World → Prop} {Q Q' : Exit → Act → World → Prop} (h : ∀ a w, K a w → K' a w) (hq : ∀ e a w, Q e a w → Q' e a w)
    (hh : o.wp P a w K Q) : o.wp P a w K' Q' := by
  unfold Oper.wp at *
  generalize (execOp a.eval o).run P w = r at *
  cases r with
  | ok n w' =>
    cases n <;> simp only [Oper.upon] at hh ⊢ <;>
      first
        | exact h _ _ hh
        | exact Calls.mono hh (fun e w'' he => by
            cases e with
            | returned v => exact h _ _ he
            | panicked c => exact hq _ _ _ he
            | outgrown => obtain ⟨x, y, z⟩ := he; exact ⟨x, y, hq _ _ _ z⟩)
        | exact Rows.mono hh (fun _ _ he => h _ _ he)
  | halt x w' => cases x <;> simp only [Oper.upon] at hh ⊢ <;> first | exact hq _ _ _ hh | exact hh

section
variable {P : Program} {E : Cx} {Q : Exit → Env → Heap → Prop} {K : Env → Heap → Prop} {L : Env} {h : Heap} {ops : Array Oper} {rest : List Oper} {o : Oper}

theorem aw_region {id : Nat} {l : List Oper} (hh : ao P l.toArray l E (Q .normal) L h) : aw P (.region id l.toArray false) E Q L h :=
  ⟨fun ι I a w r => wp_region_lit (hh.get ι I a w _ (fun _ _ ⟨L', h', ι', I', k, r'⟩ => ⟨L', h', ι', I', k, r'⟩) r)⟩

theorem ao_nil (hh : K L h) : ao P ops [] E K L h := ⟨fun ι I _ _ _ hq r => wpList_nil (hq _ _ ⟨L, h, ι, I, hh, r⟩)⟩

theorem ao_step (hg : o.guard = none) (hh : ar P o E (ao P ops rest E K) L h) : ao P ops (o :: rest) E K L h := by
  refine ⟨fun ι I a w Q hq r => ?_⟩
  refine wpList_plain hg fun K' hK => ?_
  exact wp_mono2 (fun a' w' ⟨L', h', ι', I', k, r'⟩ => hK _ _ (k.get ι' I' a' w' Q hq r'.low)) (fun _ _ _ f => f.elim) (hh.get [] ι I a w (by rw [List.append_nil]; exact r))

/-- Ways that meet behind a region's operations. -/
theorem ao_meet (L' : Env) (h1 : ao P ops rest E (fun L2 h2 => Sub L' L2 ∧ h2 = h) L h) (h2 : K L' h) : ao P ops rest E K L h :=
  ⟨fun ι I a w Q hq r => h1.get ι I a w Q (fun a' w' ⟨_, _, ι', I', ⟨hs, e⟩, r'⟩ => hq a' w' ⟨L', h, ι', I', h2, e ▸ r'.weaken hs⟩) r⟩

/-- The slot that a guard looks at. -/
def gslot (ops : Array Oper) (j : Nat) : Option Nat := (ops[j]?).bind (·.dst)

theorem Rel.yields {ι : List Inf} {I : Nat → Prop} {a : Act} {w : World} (r : Rel E L h ι I a w) {j d : Nat} {p : Bool} (hj : gslot ops j = some d) (hd : L.lookup d = some (.one (.lit (.bool p)))) : yielded ops a.tmps j = some p := by
  obtain ⟨c, h1, h2⟩ := r.slots d _ hd
  have := h2.bool
  subst this
  unfold yielded
  unfold gslot at hj
  rw [hj]
  simp [h1]

theorem AR.none_ {ι : List Inf} {I : Nat → Prop} {w : World} : AR ι I w (.tup []) undef := .tup (f := fun _ => undef) rfl (fun j hj => by simp at hj) (fun j hj => by simp at hj)
theorem ao_run {j d : Nat} {p want : Bool} (hg : o.guard = some (j, want)) (hj : gslot ops j = some d) (hd : L.lookup d = some (.one (.lit (.bool p)))) (hp : p = want) (hh : ar P o E (ao P ops rest E K) L h) : ao P ops (o :: rest) E K L h := by
  refine ⟨fun ι I a w Q hq r => ?_⟩
  refine wpList_step fun K' hK => ?_
  have hy := r.yields (ops := ops) hj hd
  rw [if_pos (by simp [Region.wanted, hg, hy, hp])]
  exact wp_mono2 (fun a' w' ⟨L', h', ι', I', k, r'⟩ => hK _ _ (k.get ι' I' a' w' Q hq r'.low)) (fun _ _ _ f => f.elim) (hh.get [] ι I a w (by rw [List.append_nil]; exact r))

theorem ao_skip {j d d' : Nat} {p want : Bool} (hg : o.guard = some (j, want)) (hj : gslot ops j = some d) (hd : L.lookup d = some (.one (.lit (.bool p)))) (hp : p = !want) (hdst : o.dst = some d') (hn : d' < E.n)
    (hh : ao P ops rest E K ((d', .tup []) :: L) h) : ao P ops (o :: rest) E K L h := by
  refine ⟨fun ι I a w Q hq r => ?_⟩
  refine wpList_step fun K' hK => ?_
  have hy := r.yields (ops := ops) hj hd
  rw [if_neg (by simp [Region.wanted, hg, hy, hp]), hdst]
  exact hK _ _ (hh.get ι I _ w Q hq (r.put hn AR.none_))
/-- The guard was not run itself. -/
theorem Rel.yieldsU {ι : List Inf} {I : Nat → Prop} {a : Act} {w : World} (r : Rel E L h ι I a w) {j d : Nat} (hj : gslot ops j = some d) (hd : L.lookup d = some (.tup [])) : yielded ops a.tmps j = none := by
  obtain ⟨c, h1, h2⟩ := r.slots d _ hd
  cases h2
  unfold yielded
  unfold gslot at hj
  rw [hj]
  simp [h1]
theorem ao_skipU {j d d' : Nat} {want : Bool} (hg : o.guard = some (j, want)) (hj : gslot ops j = some d) (hd : L.lookup d = some (.tup [])) (hdst : o.dst = some d') (hn : d' < E.n)
    (hh : ao P ops rest E K ((d', .tup []) :: L) h) : ao P ops (o :: rest) E K L h := by
  refine ⟨fun ι I a w Q hq r => ?_⟩
  refine wpList_step fun K' hK => ?_
  have hy := r.yieldsU (ops := ops) hj hd
  rw [if_neg (by simp [Region.wanted, hg, hy]), hdst]
  exact hK _ _ (hh.get ι I _ w Q hq (r.put hn AR.none_))

theorem ao_guard {j d d' : Nat} {p want : Bool} (hg : o.guard = some (j, want)) (hj : gslot ops j = some d) (hd : L.lookup d = some (.one (.lit (.bool p)))) (hdst : o.dst = some d') (hn : d' < E.n)
    (h1 : p = want → ar P o E (ao P ops rest E K) L h) (h2 : (p = !want) → ao P ops rest E K ((d', .tup []) :: L) h) : ao P ops (o :: rest) E K L h := by
  by_cases hp : p = want
  · exact ao_run hg hj hd hp (h1 hp)
  · have hp' : p = !want := by cases p <;> cases want <;> simp_all
    exact ao_skip hg hj hd hp' hdst hn (h2 hp')

/-- An operation that computes a value and leaves the world. -/
theorem ar_val {d : Nat} {v : AV} (hd : o.dst = some d) (hn : d < E.n)
    (hv : ∀ ι I a w, Rel E L h ι I a w → ∃ c, (execOp a.eval o).run P w = .ok (.value c) w ∧ AR ι I w v c) (hk : K ((d, v) :: L) h) : ar P o E K L h := by
  refine ⟨fun Lf ι I a w r => ?_⟩
  obtain ⟨c, h1, h2⟩ := hv ι I a w r.low
  unfold Oper.wp
  rw [h1, Oper.upon_value, hd]
  exact ⟨_, h, ι, I, hk, r.put hn h2⟩
end

def ARs (ι : List Inf) (I : Nat → Prop) (w : World) (xs : List AV) (cs : Array Value) : Prop := cs.size = xs.length ∧ ∀ (j : Nat) (hj : j < xs.length), ∃ c, cs[j]? = some c ∧ AR ι I w xs[j] c

/-- The old blocks that hold objects of h. -/
def passOf (ι : List Inf) (h : Heap) (b : Nat) : Prop := ∃ (id : Nat) (o : Ob) (inf : Inf), h[id]? = some (some o) ∧ ι[id]? = some inf ∧ inf.block = b

/-- What holds behind a call. -/
structure Done (w : World) (I : Nat → Prop) (ι : List Inf) (h : Heap) (r : AV) (h' : Heap) (ι' : List Inf) (I' : Nat → Prop) (c : Value) (w' : World) : Prop where
  res : AR ι' I' w' r c
  heap : HR ι' I' w' h'
  imm : ∀ b, I' b → b < w'.heap.size
  immlo : ∀ b, I' b → I b ∨ passOf ι h b ∨ w.heap.size ≤ b
  pre : Grows ι ι'
  os : w'.os = w.os
  tape : w'.tape = w.tape
  output : w'.output = w.output
  grown : w.heap.size ≤ w'.heap.size
  frame : ∀ b, b < w.heap.size → ¬ passOf ι h b → w'.heap[b]? = w.heap[b]?
  mine : ∀ (id : Nat) (o : Ob) (inf : Inf), h'[id]? = some (some o) → ι'[id]? = some inf → passOf ι h inf.block ∨ w.heap.size ≤ inf.block

/-- A function that can be called. -/
def callable (P : Program) (f : FuncId) : Prop := ∃ fn, P.funcs[f]? = some fn ∧ (fn.name == "runtime.NumGoroutine") = false ∧ fn.body.isNone = false

/-- A function's contract. -/
def Fn (P : Program) (f : FuncId) (xs : List AV) (h : Heap) (R : AV → Heap → Prop) : Prop :=
  callable P f ∧ ∀ w I ι cs, HR ι I w h → (∀ b, I b → b < w.heap.size) → ARs ι I w xs cs →
    Calls P f cs w fun e w' => ∃ r h' ι' I' c, R r h' ∧ e = .returned c ∧ Done w I ι h r h' ι' I' c w'

theorem Fn.mono {P : Program} {f : FuncId} {xs : List AV} {h : Heap} {R R' : AV → Heap → Prop} (hh : Fn P f xs h R) (hr : ∀ r h', R r h' → R' r h') : Fn P f xs h R' :=
  ⟨hh.1, fun w I ι cs a b c => (hh.2 w I ι cs a b c).mono fun _ _ ⟨r, h', ι', I', c, k, e, d⟩ => ⟨r, h', ι', I', c, hr _ _ k, e, d⟩⟩

def argEnv : Nat → List AV → Env
  | _, [] => []
  | k, x :: xs => (k, x) :: argEnv (k + 1) xs

theorem argEnv_lookup (xs : List AV) : ∀ (k t : Nat) (v : AV), (argEnv k xs).lookup t = some v → k ≤ t ∧ xs[t - k]? = some v := by
  induction xs with
  | nil => intro k t v h; simp [argEnv] at h
  | cons x xs ih =>
    intro k t v h
    simp only [argEnv, List.lookup_cons] at h
    by_cases e : t = k
    · subst e; simp at h; subst h; simp
    · have e' : (t == k) = false := by simpa using e
      rw [e'] at h
      obtain ⟨h1, h2⟩ := ih (k + 1) t v h
      refine ⟨by omega, ?_⟩
      have : t - k = (t - (k + 1)) + 1 := by omega
      rw [this]; simpa using h2

/-- The results' values, by the slots. -/
structure Res (P : Program) (fn : Func) (L : Env) (h : Heap) (r : AV) : Prop where
  get : ∀ E ι I a w, Rel E L h ι I a w → ∃ c, (results fn a.tmps).run P w = .ok c w ∧ AR ι I w r c

/-- One result, in a slot. -/
theorem res_one {P : Program} {fn : Func} {L : Env} {h : Heap} {t : Nat} {v : AV} (hr : fn.results = #[.tmp t]) (hv : L.lookup t = some v) : Res P fn L h v :=
  ⟨fun E ι I a w r => by
    obtain ⟨c, h1, h2⟩ := r.slots t v hv
    exact ⟨c, by simp [results, hr, h1], h2⟩⟩
/-- Two results, in slots. -/
theorem res_two {P : Program} {fn : Func} {L : Env} {h : Heap} {t u : Nat} {v x : AV} (hr : fn.results = #[.tmp t, .tmp u]) (hv : L.lookup t = some v) (hx : L.lookup u = some x) : Res P fn L h (.tup [v, x]) :=
  ⟨fun E ι I a w r => by
    obtain ⟨c, h1, h2⟩ := r.slots t v hv
    obtain ⟨e, h3, h4⟩ := r.slots u x hx
    refine ⟨.tuple #[c, e], by simp [results, hr, h1, h3], .tup (f := fun j => if j = 0 then c else e) rfl (fun j hj => ?_) (fun j hj => ?_)⟩
    · rcases j with _ | _ | j
      · rfl
      · rfl
      · simp at hj; omega
    · rcases j with _ | _ | j
      · exact h2
      · exact h4
      · simp at hj; omega⟩

theorem res_mk {P : Program} {fn : Func} {L : Env} {h : Heap} {r : AV} (hh : ∀ E ι I a w, Rel E L h ι I a w → ∃ c, (results fn a.tmps).run P w = .ok c w ∧ AR ι I w r c) : Res P fn L h r := ⟨hh⟩

mutual
def AV.flat : AV → Bool
  | .one v => v.flat
  | .agg vs => vs.all V.flat
  | .tup xs => AV.flats xs
  | .dead => true
def AV.flats : List AV → Bool
  | [] => true
  | x :: xs => x.flat && AV.flats xs
end
theorem AV.flats_mem {xs : List AV} (h : AV.flats xs = true) : ∀ x ∈ xs, x.flat = true := by
  induction xs with
  | nil => intro x hx; simp at hx
  | cons y ys ih =>
    simp only [AV.flats, Bool.and_eq_true] at h
    intro x hx
    rcases List.mem_cons.1 hx with e | e
    · exact e ▸ h.1
    · exact ih h.2 x e
theorem AR.free {ι ι' : List Inf} {I : Nat → Prop} {w : World} {r : AV} {c : Value} (h : AR ι I w r c) (hf : r.flat = true) : AR ι' I w r c := by
  induction h with
  | one h => exact .one (h.free (by simpa [AV.flat] using hf))
  | agg hl hcs hr => exact .agg hl hcs (fun j hj => (hr j hj).free (List.all_eq_true.1 (by simpa only [AV.flat] using hf) _ (List.getElem_mem hj)))
  | tup hl hcs hr ih => exact .tup hl hcs (fun j hj => ih j hj (AV.flats_mem (by simpa only [AV.flat] using hf) _ (List.getElem_mem hj)))
  | dead => exact .dead
def Ob.flat : Ob → Bool
  | .row _ es => es.all (·.all V.flat)
  | .map kvs => kvs.all (·.2.all V.flat)

/-- What a call hands out: its own new objects may be dropped if neither the result nor an older object leads to them. -/
def Out (h0 : Heap) (R : AV → Heap → Prop) (r : AV) (h : Heap) : Prop :=
  R r h ∨ ∃ h2 g, h = h2 ++ g ∧ r.flat = true ∧ h0.length ≤ h2.length ∧ (∀ (id : Nat) (o : Ob), h2[id]? = some (some o) → h0[id]? = some (some o) ∨ o.flat = true) ∧ R r h2

theorem VR.cut {ι0 ι ι' : List Inf} {I0 I : Nat → Prop} {w0 w : World} {v : V} {c0 c : Value} (hp : ∀ (id : Nat) (inf inf' : Inf), ι0[id]? = some inf → ι[id]? = some inf' → ι'[id]? = some inf') (h0 : VR I0 w0 ι0 v c0) (h : VR I w ι v c) : VR I w ι' v c := by
  induction h generalizing ι0 c0 with
  | lit h => exact .lit h
  | imm0 hc => exact .imm0 hc
  | imm hs hc hm hI hcell hr ih => exact .imm hs hc hm hI hcell hr
  | immc0 => exact .immc0
  | immc hs hm hI hcell hr ih => exact .immc hs hm hI hcell hr
  | own hi hl hcap hm =>
    cases h0 with
    | own hi0 _ _ _ => exact .own (hp _ _ _ hi0 hi) hl hcap hm
    | own0 hi0 _ => exact .own (hp _ _ _ hi0 hi) hl hcap hm
  | own0 hi hcap =>
    cases h0 with
    | own hi0 _ _ _ => exact .own0 (hp _ _ _ hi0 hi) hcap
    | own0 hi0 _ => exact .own0 (hp _ _ _ hi0 hi) hcap
  | ptr hi => cases h0 with | ptr hi0 => exact .ptr (hp _ _ _ hi0 hi)
  | iptr hI hcell hr ih => exact .iptr hI hcell hr
  | clo hl hcs hr ih => cases h0 with | clo hl0 hcs0 hr0 => exact .clo hl hcs (fun j hj => ih j hj hp (hr0 j hj))
  | mp hi => cases h0 with | mp hi0 => exact .mp (hp _ _ _ hi0 hi)

theorem OR.cut {ι0 ι ι' : List Inf} {I0 I : Nat → Prop} {w0 w : World} {inf0 inf : Inf} {o : Ob} (hp : ∀ (id : Nat) (inf inf' : Inf), ι0[id]? = some inf → ι[id]? = some inf' → ι'[id]? = some inf') (h0 : OR ι0 I0 w0 inf0 o) (h : OR ι I w inf o) : OR ι' I w inf o := by
  cases o with
  | row s es =>
    obtain ⟨cur, t, h1, h2, h3, h4, h5, h6, h7⟩ := h
    obtain ⟨_, _, _, _, _, _, _, _, g7⟩ := h0
    refine ⟨cur, t, h1, h2, h3, h4, h5, h6, fun k hk j hj => ?_⟩
    obtain ⟨u, hu, hv⟩ := h7 k hk j hj
    obtain ⟨_, _, gv⟩ := g7 k hk j hj
    exact ⟨u, hu, gv.cut hp hv⟩
  | map kvs =>
    obtain ⟨en, clock, h1, h2, h3, h4, h5⟩ := h
    obtain ⟨_, _, _, _, g3, _⟩ := h0
    refine ⟨en, clock, h1, h2, fun s vs hs => ?_, h4, h5⟩
    obtain ⟨e, he, hkey, f, f1, f2, f3⟩ := h3 s vs hs
    obtain ⟨_, _, _, _, _, _, e3⟩ := g3 s vs hs
    exact ⟨e, he, hkey, f, f1, f2, fun j hj => (e3 j hj).cut hp (f3 j hj)⟩
theorem OR.free {ι ι' : List Inf} {I : Nat → Prop} {w : World} {inf : Inf} {o : Ob} (hf : o.flat = true) (h : OR ι I w inf o) : OR ι' I w inf o := by
  cases o with
  | row s es =>
    obtain ⟨cur, t, h1, h2, h3, h4, h5, h6, h7⟩ := h
    refine ⟨cur, t, h1, h2, h3, h4, h5, h6, fun k hk j hj => ?_⟩
    obtain ⟨u, hu, hv⟩ := h7 k hk j hj
    have hf' : (es.all fun x => x.all V.flat) = true := by simpa only [Ob.flat] using hf
    have := List.all_eq_true.1 (List.all_eq_true.1 hf' _ (List.getElem_mem hk)) _ (List.getElem_mem hj)
    exact ⟨u, hu, hv.free this⟩
  | map kvs =>
    obtain ⟨en, clock, h1, h2, h3, h4, h5⟩ := h
    refine ⟨en, clock, h1, h2, fun s vs hs => ?_, h4, h5⟩
    obtain ⟨e, he, hkey, f, f1, f2, f3⟩ := h3 s vs hs
    have hmem : (s, vs) ∈ kvs := by
      clear h1 h2 h3 h4 h5 f1 f2 f3 hf
      induction kvs with
      | nil => simp [kget] at hs
      | cons p kvs ih =>
        obtain ⟨a, b⟩ := p
        simp only [kget] at hs
        split at hs
        · rename_i e
          cases hs
          subst e
          exact List.mem_cons_self
        · exact List.mem_cons_of_mem _ (ih hs)
    have hf' : (kvs.all fun x => x.2.all V.flat) = true := by simpa only [Ob.flat] using hf
    exact ⟨e, he, hkey, f, f1, f2, fun j hj => (f3 j hj).free (List.all_eq_true.1 (List.all_eq_true.1 hf' _ hmem) _ (List.getElem_mem hj))⟩

/-- The same state, told otherwise. -/
structure Shift (L : Env) (h : Heap) (L2 : Env) (h2 : Heap) : Prop where
  get : ∀ E ι I a w, Rel E L h ι I a w → ∃ I', Rel E L2 h2 ι I' a w
theorem Shift.refl (L : Env) (h : Heap) : Shift L h L h := ⟨fun _ _ I _ _ r => ⟨I, r⟩⟩
theorem Shift.trans {L L2 L3 : Env} {h h2 h3 : Heap} (a : Shift L h L2 h2) (b : Shift L2 h2 L3 h3) : Shift L h L3 h3 := ⟨fun E ι I x w r => let ⟨I', r'⟩ := a.get E ι I x w r; b.get E ι I' x w r'⟩
theorem aw_shift {P : Program} {E : Cx} {Q : Exit → Env → Heap → Prop} {L L2 : Env} {h h2 : Heap} {c : Code} (s : Shift L h L2 h2) (hh : aw P c E Q L2 h2) : aw P c E Q L h := ⟨fun ι I a w r => let ⟨I', r'⟩ := s.get E ι I a w r; hh.get ι I' a w r'⟩
theorem ao_shift {P : Program} {E : Cx} {K : Env → Heap → Prop} {L L2 : Env} {h h2 : Heap} {ops : Array Oper} {rest : List Oper} (s : Shift L h L2 h2) (hh : ao P ops rest E K L2 h2) : ao P ops rest E K L h := ⟨fun ι I a w Q hq r => let ⟨I', r'⟩ := s.get E ι I a w r; hh.get ι I' a w Q hq r'⟩

def retQ (P : Program) (fn : Func) (h0 : Heap) (R : AV → Heap → Prop) : Exit → Env → Heap → Prop
  | .normal, L, h | .ret, L, h => ∃ L2 h2 r, Shift L h L2 h2 ∧ Res P fn L2 h2 r ∧ Out h0 R r h2
  | _, _, _ => False
theorem retN {P : Program} {fn : Func} {h0 : Heap} {L : Env} {h : Heap} {r : AV} {R : AV → Heap → Prop} (k1 : Res P fn L h r) (k2 : Out h0 R r h) : retQ P fn h0 R .ret L h := ⟨L, h, r, .refl _ _, k1, k2⟩
theorem retM {P : Program} {fn : Func} {h0 : Heap} {L : Env} {h : Heap} {r : AV} {R : AV → Heap → Prop} (k1 : Res P fn L h r) (k2 : Out h0 R r h) : retQ P fn h0 R .normal L h := ⟨L, h, r, .refl _ _, k1, k2⟩
/-- With data made immutable first. -/
theorem retF {P : Program} {fn : Func} {h0 : Heap} {L L2 : Env} {h h2 : Heap} {r : AV} {R : AV → Heap → Prop} (s : Shift L h L2 h2) (k1 : Res P fn L2 h2 r) (k2 : Out h0 R r h2) : retQ P fn h0 R .ret L h := ⟨L2, h2, r, s, k1, k2⟩

theorem done_of_rel {w : World} {I : Nat → Prop} {ι : List Inf} {h : Heap} {n : Nat} {L' : Env} {h' : Heap} {ι' : List Inf} {I' : Nat → Prop} {a' : Act} {w' : World} {r : AV} {c : Value} {R : AV → Heap → Prop} (hH : HR ι I w h) (rel : Rel ⟨w, passOf ι h, ι, n, I⟩ L' h' ι' I' a' w') (h2 : AR ι' I' w' r c) (hR : Out h R r h') :
    ∃ r h' ι' I', R r h' ∧ Done w I ι h r h' ι' I' c w' := by
  rcases hR with hR | ⟨hn, g, rfl, hfl, hle, hobj, hR⟩
  · exact ⟨r, h', ι', I', hR, ⟨h2, rel.heap, rel.imm, rel.immlo, rel.pre, rel.os, rel.tape, rel.output, rel.grown, rel.frame, rel.mine⟩⟩
  · have hlen := rel.heap.len
    simp at hlen
    have up : ∀ {id : Nat} {o : Ob}, hn[id]? = some (some o) → (hn ++ g)[id]? = some (some o) := fun x => by
      rw [List.getElem?_append_left (List.getElem?_eq_some_iff.1 x).1]; exact x
    have tk : ∀ {id : Nat} {inf : Inf}, (ι'.take hn.length)[id]? = some inf → ι'[id]? = some inf := fun {id inf} x => by
      rw [List.getElem?_take] at x
      split at x
      · exact x
      · cases x
    have hι0 := hH.len
    have hp : ∀ (id : Nat) (inf inf' : Inf), ι[id]? = some inf → ι'[id]? = some inf' → (ι'.take hn.length)[id]? = some inf' := fun id inf inf' x y => by
      have := (List.getElem?_eq_some_iff.1 x).1
      rw [List.getElem?_take, if_pos (by omega)]; exact y
    refine ⟨r, hn, ι'.take hn.length, I', hR, ⟨h2.free hfl, ⟨by simp; omega, fun id o inf x y => ?_, fun id o inf x y => rel.heap.off id o inf (up x) (tk y), fun id id' o o' inf inf' x x' y y' e => rel.heap.inj id id' o o' inf inf' (up x) (up x') (tk y) (tk y') e⟩, rel.imm, rel.immlo, fun id inf x => hp id inf inf x (rel.pre id inf x), rel.os, rel.tape, rel.output, rel.grown, rel.frame, fun id o inf x y => rel.mine id o inf (up x) (tk y)⟩⟩
    have hor := rel.heap.obj id o inf (up x) (tk y)
    rcases hobj id o x with x0 | hf0
    · have hlt : id < ι.length := by have := (List.getElem?_eq_some_iff.1 x0).1; omega
      exact (hH.obj id o _ x0 (List.getElem?_eq_getElem hlt)).cut hp hor
    · exact hor.free hf0

/-- A contract whose answer is told otherwise behind the call. -/
theorem Fn.seal {P : Program} {f : FuncId} {xs : List AV} {h : Heap} {R R2 : AV → Heap → Prop} (hf : Fn P f xs h R) (hs : ∀ r h', R r h' → ∃ L2 h2 r2, Shift [(0, r)] h' L2 h2 ∧ L2.lookup 0 = some r2 ∧ Out h R2 r2 h2) : Fn P f xs h R2 := by
  refine ⟨hf.1, fun w I ι cs hH hI hA => (hf.2 w I ι cs hH hI hA).mono ?_⟩
  rintro e w' ⟨r, h', ι', I', c, hR, rfl, D⟩
  obtain ⟨L2, h2, r2, sh, hl, hO⟩ := hs r h' hR
  have rel : Rel ⟨w, passOf ι h, ι, 1, I⟩ [(0, r)] h' ι' I' { tmps := #[c], defers := [] } w' :=
    { slots := fun t v hv => by
        rw [List.lookup_cons] at hv
        by_cases e : t = 0
        · subst e
          simp at hv
          subst hv
          exact ⟨c, rfl, D.res⟩
        · have e' : (t == 0) = false := by simpa using e
          rw [e'] at hv
          simp at hv
      heap := D.heap
      imm := D.imm
      immlo := D.immlo
      pre := D.pre
      os := D.os
      tape := D.tape
      output := D.output
      grown := D.grown
      frame := D.frame
      mine := D.mine
      defers := rfl
      size := rfl }
  obtain ⟨I2, rel2⟩ := sh.get _ _ _ _ _ rel
  obtain ⟨c2, g1, g2⟩ := rel2.slots 0 r2 hl
  have : c2 = c := by simpa using g1.symm
  subst this
  obtain ⟨r3, h3, ι3, I3, k1, k2⟩ := done_of_rel hH rel2 g2 hO
  exact ⟨r3, h3, ι3, I3, c2, k1, rfl, k2⟩

theorem fn_of_aw {P : Program} {f : FuncId} {fn : Func} {c : Code} {xs : List AV} {h : Heap} {R : AV → Heap → Prop} (hf : P.funcs[f]? = some fn) (hb : fn.body = some c) (hname : (fn.name == "runtime.NumGoroutine") = false) (hx : xs.length ≤ fn.ntmps)
    (hh : ∀ E : Cx, E.n = fn.ntmps → aw P c E (retQ P fn h R) (argEnv 0 xs) h) : Fn P f xs h R := by
  refine ⟨⟨fn, hf, hname, by simp [hb]⟩, ?_⟩
  intro w I ι cs hH hI hA
  refine calls_of_wp hf hb ?_
  let E : Cx := ⟨w, passOf ι h, ι, fn.ntmps, I⟩
  have hr : Rel E (argEnv 0 xs) h ι I { tmps := cs ++ Array.replicate (fn.ntmps - cs.size) undef, defers := [] } w :=
    { slots := fun t v hv => by
        obtain ⟨_, h2⟩ := argEnv_lookup xs 0 t v hv
        rw [Nat.sub_zero] at h2
        obtain ⟨hlt, rfl⟩ := List.getElem?_eq_some_iff.1 h2
        obtain ⟨c, h3, h4⟩ := hA.2 t hlt
        exact ⟨c, by rw [Array.getElem?_append_left (by rw [hA.1]; exact hlt)]; exact h3, h4⟩
      heap := hH
      imm := hI
      immlo := fun _ hb => .inl hb
      pre := Grows.refl _
      os := rfl
      tape := rfl
      output := rfl
      grown := Nat.le_refl _
      frame := fun _ _ _ => rfl
      mine := fun id o inf h1 h2 => .inl ⟨id, o, inf, h1, h2, rfl⟩
      defers := rfl
      size := by
        show (cs ++ Array.replicate (fn.ntmps - cs.size) undef).size = fn.ntmps
        have := hA.1
        simp
        omega }
  refine wp_mono ((hh E rfl).get ι I _ w hr) ?_
  have fin : ∀ {a' : Act} {w' : World} {L' : Env} {h' : Heap} {ι' : List Inf} {I' : Nat → Prop}, (∃ L2 h2 r, Shift L' h' L2 h2 ∧ Res P fn L2 h2 r ∧ Out h R r h2) → Rel E L' h' ι' I' a' w' →
      a'.defers = [] ∧ ∃ v, (results fn a'.tmps).run P w' = .ok v w' ∧ ∃ r h' ι' I' c, R r h' ∧ (Ending.returned v) = .returned c ∧ Done w I ι h r h' ι' I' c w' := by
    rintro a' w' L0 h0' ι' I0' ⟨L', h', r, sh, hr, hR⟩ rel0
    obtain ⟨I', rel⟩ := sh.get E ι' I0' a' w' rel0
    obtain ⟨c, h1, h2⟩ := hr.get E ι' I' a' w' rel
    refine ⟨rel.defers, c, h1, ?_⟩
    obtain ⟨r, h', ι', I', k1, k2⟩ := done_of_rel hH rel h2 hR
    exact ⟨r, h', ι', I', c, k1, rfl, k2⟩
  rintro e a' w' ⟨L', h', ι', I', q, rel⟩
  cases e with
  | normal => exact fin q rel
  | ret => exact fin q rel
  | exit id => exact q.elim
  | goto l => exact q.elim
  | panic ch => exact q.elim
  | outgrown => exact q.elim

/-- The arguments of a call. -/
def evs (L : Env) : List Operand → Option (List AV)
  | [] => some []
  | x :: xs => match ev L x, evs L xs with
    | some v, some vs => some (v :: vs)
    | _, _ => none
theorem Rel.evs {E : Cx} {L : Env} {h : Heap} {ι : List Inf} {I : Nat → Prop} {a : Act} {w : World} (r : Rel E L h ι I a w) : ∀ {ops : List Operand} {xs : List AV}, evs L ops = some xs → ARs ι I w xs (ops.map a.eval).toArray := by
  intro ops
  induction ops with
  | nil => intro xs h; simp [Abs.evs] at h; subst h; exact ⟨rfl, fun j hj => by simp at hj⟩
  | cons x ops ih =>
    intro xs h
    simp only [Abs.evs] at h
    cases hx : Abs.ev L x with
    | none => simp [hx] at h
    | some v =>
      cases hr : Abs.evs L ops with
      | none => simp [hx, hr] at h
      | some vs =>
        simp [hx, hr] at h
        subst h
        obtain ⟨h1, h2⟩ := ih hr
        refine ⟨by simp at h1; simp [h1], fun j hj => ?_⟩
        cases j with
        | zero => exact ⟨_, rfl, r.ev hx⟩
        | succ j =>
          obtain ⟨c, h3, h4⟩ := h2 j (by simpa using hj)
          exact ⟨c, by simpa using h3, h4⟩

theorem ar_of_fn {P : Program} {E : Cx} {K : Env → Heap → Prop} {L : Env} {h : Heap} {f : FuncId} {xs : List AV} {o : Oper} {cs : Act → Array Value} {d : Nat} {R : AV → Heap → Prop} (hd : o.dst = some d) (hn : d < E.n)
    (hrun : ∀ a w, (∃ ι I, Rel E L h ι I a w) → (execOp a.eval o).run P w = .ok (.enter f (cs a)) w) (hcs : ∀ ι I a w, Rel E L h ι I a w → ARs ι I w xs (cs a)) (hf : Fn P f xs h R) (hk : ∀ r h', R r h' → K ((d, r) :: L) h') : ar P o E K L h := by
  refine ⟨fun Lf ι I a w r => ?_⟩
  unfold Oper.wp
  rw [hrun a w ⟨ι, I, r.low⟩, Oper.upon_enter]
  refine (hf.2 w I ι (cs a) r.heap r.imm (hcs ι I a w r.low)).mono ?_
  rintro e w' ⟨v, h', ι', I', c, hR, rfl, D⟩
  rw [hd]
  have hkp : Keeps I (fun b => I b ∨ I' b) w w' := ⟨fun b hb => .inl hb, fun b o hb => by
    simp only [World.cell?]
    rw [D.frame b (r.imm b hb) (fun ⟨id, o, inf, x, y, e⟩ => r.heap.off id o inf x y (e ▸ hb))]⟩
  have hkp' : Keeps I' (fun b => I b ∨ I' b) w' w' := ⟨fun b hb => .inr hb, fun _ _ _ => rfl⟩
  refine ⟨_, h', ι', fun b => I b ∨ I' b, hk v h' hR, Rel.put (c := c) ?_ hn (D.res.keep (Grows.refl _) hkp')⟩
  exact
  { slots := fun t u hu => let ⟨c, x, y⟩ := r.slots t u hu; ⟨c, x, y.keep D.pre hkp⟩
    heap := ⟨D.heap.len, fun id o inf x y => (D.heap.obj id o inf x y).keep (Grows.refl _) hkp' rfl, fun id o inf x y hb => by
      rcases hb with hb | hb
      · rcases D.mine id o inf x y with ⟨id0, o0, inf0, x0, y0, e0⟩ | hge
        · exact r.heap.off id0 o0 inf0 x0 y0 (e0 ▸ hb)
        · have := r.imm _ hb; omega
      · exact D.heap.off id o inf x y hb, D.heap.inj⟩
    imm := fun b hb => by
      rcases hb with hb | hb
      · have := r.imm b hb; have := D.grown; omega
      · exact D.imm b hb
    immlo := fun b hb => by
      rcases hb with hb | hb
      · exact r.immlo b hb
      · rcases D.immlo b hb with hb | ⟨id0, o0, inf0, x0, y0, e0⟩ | hb
        · exact r.immlo b hb
        · rw [← e0]; exact .inr (r.mine id0 o0 inf0 x0 y0)
        · exact .inr (.inr (Nat.le_trans r.grown hb))
    pre := r.pre.trans D.pre
    os := D.os.trans r.os
    tape := D.tape.trans r.tape
    output := D.output.trans r.output
    grown := Nat.le_trans r.grown D.grown
    frame := fun b x y => by
      rw [D.frame b (by have := r.grown; omega) (fun ⟨id, o, inf, x1, y1, e⟩ => by
        rcases r.mine id o inf x1 y1 with hp | hp
        · exact y (e ▸ hp)
        · omega)]
      exact r.frame b x y
    mine := fun id o inf x y => by
      rcases D.mine id o inf x y with ⟨id0, o0, inf0, x0, y0, e0⟩ | hge
      · rw [← e0]; exact r.mine id0 o0 inf0 x0 y0
      · exact .inr (by have := r.grown; omega)
    defers := r.defers
    size := r.size }

theorem callable.run {P : Program} {f : FuncId} (h : callable P f) (args : Array Value) (w : World) : (callFunc f args).run P w = .ok (.enter f args) w := by
  obtain ⟨fn, h1, h2, h3⟩ := h
  have h2' : ¬ (fn.name = "runtime.NumGoroutine") := by simpa using h2
  have h3' : ¬ (fn.body = none) := by intro e; simp [e] at h3
  simp [callFunc, program, Sem.run, bind, Sem.bind, h1, h2', h3']

/-- A call of a function by its name. -/
theorem ar_call {P : Program} {E : Cx} {K : Env → Heap → Prop} {L : Env} {h : Heap} {d f : Nat} {args : List Operand} {tys : Array TypeId} {ty : TypeId} {pos : String} {af : Array Edge} {gd : Option (Nat × Bool)} {xs : List AV} {R : AV → Heap → Prop}
    (hx : evs L args = some xs) (hn : d < E.n) (hf : Fn P f xs h R) (hk : ∀ r h', R r h' → K ((d, r) :: L) h') : ar P ⟨some d, .call ⟨.value (.func f), args.toArray, tys⟩, ty, pos, af, gd⟩ E K L h :=
  ar_of_fn (cs := fun a => (args.map a.eval).toArray) rfl hn (fun a w _ => by
    simp [execOp, resolve, Act.eval, Deferred.ofValue, invoke, hf.1.run]) (fun ι I a w r => r.evs hx) hf hk

end Go.Proofs.Ytagnfckihdlhpaa.Abs

/-
  The abstract program logic: operations that compute. For any program.
-/
namespace Go.Proofs.Ytagnfckihdlhpaa.Abs
open Go.RowKit

theorem AR.lit {ι : List Inf} {I : Nat → Prop} {w : World} {u c : Value} (h : AR ι I w (.one (.lit u)) c) : c = u ∧ okLit u := by
  cases h with
  | one h => cases h with | lit h => exact ⟨rfl, h⟩

/-- What the context knows of a slice's element type. -/
structure ElI where
  t : Nat
  size : Nat
  bytes : Nat
  zero : List Value
/-- What the context knows of a type of the program. -/
structure TyI where
  desc : TypeDesc
  agg : Bool
  size : Nat
  bytes : Nat
  zero : List Value
  elem : Option ElI
  fields : List (Nat × Nat × Nat)

def sizeIn (P : Program) (t : TypeId) : Nat := ((P.info? t).map (·.size)).getD 0
def zeroIn (P : Program) (t : TypeId) : List Value := match (P.info? t).bind (·.zero) with | some v => v.cells.toList | none => []
def tyOf (P : Program) (t : TypeId) : Option TyI :=
  match P.info? t, P.underlying t with
  | some i, some d => some {
      desc := d
      agg := match d with | .struct _ | .array _ _ => true | _ => false
      size := i.size
      bytes := i.bytes
      zero := zeroIn P t
      elem := match d with | .slice e => some ⟨e, sizeIn P e, ((P.info? e).map (·.bytes)).getD 0, zeroIn P e⟩ | _ => none
      fields := match d with | .struct fs => fs.toList.map fun f => (f.offset, f.type, sizeIn P f.type) | _ => [] }
  | _, _ => none
abbrev Tbl := List (Nat × TyI)
def TbOK (P : Program) (tb : Tbl) : Prop := ∀ t i, tb.lookup t = some i → tyOf P t = some i
theorem tbOK_nil (P : Program) : TbOK P [] := fun t i h => by simp at h
theorem tbOK_cons {P : Program} {t : Nat} {i : TyI} {tb : Tbl} (h1 : tyOf P t = some i) (h2 : TbOK P tb) : TbOK P ((t, i) :: tb) := by
  intro u x hx
  rw [List.lookup_cons] at hx
  by_cases e : u = t
  · subst e; simp at hx; subst hx; exact h1
  · have e' : (u == t) = false := by simpa using e
    rw [e'] at hx
    exact h2 u x hx

theorem tyOf_some {P : Program} {t : TypeId} {i : TyI} (h : tyOf P t = some i) : ∃ inf, P.info? t = some inf ∧ P.underlying t = some i.desc ∧ inf.size = i.size ∧ inf.bytes = i.bytes ∧
    (i.agg = match i.desc with | .struct _ | .array _ _ => true | _ => false) ∧ i.zero = zeroIn P t ∧
    (i.elem = match i.desc with | .slice e => some ⟨e, sizeIn P e, ((P.info? e).map (·.bytes)).getD 0, zeroIn P e⟩ | _ => none) ∧
    (i.fields = match i.desc with | .struct fs => fs.toList.map fun f => (f.offset, f.type, sizeIn P f.type) | _ => []) := by
  unfold tyOf at h
  cases h1 : P.info? t with
  | none => simp [h1] at h
  | some inf =>
    cases h2 : P.underlying t with
    | none => simp [h1, h2] at h
    | some d =>
      simp only [h1, h2, Option.some.injEq] at h
      subst h
      exact ⟨inf, rfl, rfl, rfl, rfl, rfl, rfl, rfl, rfl⟩
def elOf (tb : Tbl) (t : TypeId) : Option ElI := (tb.lookup t).bind (·.elem)
theorem elOf_some {P : Program} {tb : Tbl} (htb : TbOK P tb) {t : TypeId} {el : ElI} (h : elOf tb t = some el) : P.underlying t = some (.slice el.t) ∧ sizeIn P el.t = el.size ∧ ((P.info? el.t).map (·.bytes)).getD 0 = el.bytes ∧ zeroIn P el.t = el.zero := by
  unfold elOf at h
  cases hl : tb.lookup t with
  | none => simp [hl] at h
  | some i =>
    simp only [hl, Option.bind_some] at h
    obtain ⟨inf, _, h2, _, _, _, _, h7, _⟩ := tyOf_some (htb t i hl)
    rw [h7] at h
    split at h
    · rename_i e he
      cases h
      exact ⟨he ▸ h2, rfl, rfl, rfl⟩
    · cases h
theorem info_of_size {P : Program} {t : TypeId} {n : Nat} (h : sizeIn P t = n) (hn : 0 < n) : ∃ inf, P.info? t = some inf ∧ inf.size = n := by
  unfold sizeIn at h
  cases hi : P.info? t with
  | none => simp [hi] at h; omega
  | some inf => simp [hi] at h; exact ⟨inf, rfl, h⟩

section
variable {P : Program} {E : Cx} {K : Env → Heap → Prop} {L : Env} {h : Heap} {d : Nat} {ty : TypeId} {pos : String} {af : Array Edge} {gd : Option (Nat × Bool)}

theorem ar_move {x : Operand} {v : AV} (hx : ev L x = some v) (hn : d < E.n) (hk : K ((d, v) :: L) h) : ar P ⟨some d, .move x, ty, pos, af, gd⟩ E K L h :=
  ar_val rfl hn (fun _ _ a _ r => ⟨a.eval x, rfl, r.ev hx⟩) hk
theorem ar_assign {x : Operand} {v : AV} (hx : ev L x = some v) (hn : d < E.n) (hk : K ((d, v) :: L) h) : ar P ⟨some d, .assign x, ty, pos, af, gd⟩ E K L h :=
  ar_val rfl hn (fun _ _ a _ r => ⟨a.eval x, rfl, r.ev hx⟩) hk
theorem ar_pickT {c x y : Operand} {v : AV} {p : Bool} (hc : ev L c = some (.one (.lit (.bool p)))) (hp : p = true) (hx : ev L x = some v) (hn : d < E.n) (hk : K ((d, v) :: L) h) : ar P ⟨some d, .pick c x y, ty, pos, af, gd⟩ E K L h :=
  ar_val rfl hn (fun _ _ a _ r => ⟨a.eval x, by simp [execOp, (r.ev hc).bool, hp, asBool, bind, Sem.bind, pure], r.ev hx⟩) hk
theorem ar_pickF {c x y : Operand} {v : AV} {p : Bool} (hc : ev L c = some (.one (.lit (.bool p)))) (hp : p = false) (hy : ev L y = some v) (hn : d < E.n) (hk : K ((d, v) :: L) h) : ar P ⟨some d, .pick c x y, ty, pos, af, gd⟩ E K L h :=
  ar_val rfl hn (fun _ _ a _ r => ⟨a.eval y, by simp [execOp, (r.ev hc).bool, hp, asBool, bind, Sem.bind, pure], r.ev hy⟩) hk

/-- An operation on two plain values. -/
theorem ar_bin {op : BinOp} {xt yt : TypeId} {x y : Operand} {u v c : Value} (hx : ev L x = some (.one (.lit u))) (hy : ev L y = some (.one (.lit v)))
    (hnn : ¬ (u = .nilIface ∧ v = .nilIface)) (hr : ∀ w, (binOp op xt u v).run P w = .ok c w) (hc : okLit u → okLit v → okLit c) (hn : d < E.n) (hk : K ((d, .one (.lit c)) :: L) h) : ar P ⟨some d, .binOp op xt x y yt, ty, pos, af, gd⟩ E K L h :=
  ar_val rfl hn (fun _ _ a w r => by
    obtain ⟨e1, o1⟩ := (r.ev hx).lit
    obtain ⟨e2, o2⟩ := (r.ev hy).lit
    refine ⟨c, ?_, .one (.lit (hc o1 o2))⟩
    have hg : (eqGuard op xt x y u v) = .pure () := by
      cases u <;> cases v <;> first | exact absurd ⟨rfl, rfl⟩ hnn | exact o1.elim | exact o2.elim | (cases op <;> rfl)
    simp only [execOp, e1, e2, hg, Sem.run_bind, Sem.run_pure', Result.andThen_ok, hr w, Sem.run_pure]) hk

theorem wf_i64 {n : Int} (h1 : -9223372036854775808 ≤ n) (h2 : n ≤ 9223372036854775807) : okLit (.int .i64 n) := by
  show (Lit.int .i64 n).wf = true
  simp [Lit.wf, IntKind.min, IntKind.max, IntKind.signed, IntKind.bits]
  omega
theorem i64_wf {n : Int} (h : okLit (.int .i64 n)) : -9223372036854775808 ≤ n ∧ n ≤ 9223372036854775807 := by
  have h : (Lit.int .i64 n).wf = true := h
  simp [Lit.wf, IntKind.min, IntKind.max, IntKind.signed, IntKind.bits] at h
  omega
theorem wrap_in {n : Int} (h1 : -9223372036854775808 ≤ n) (h2 : n ≤ 9223372036854775807) : IntKind.i64.wrap n = n := IntWalk.i64_in _ ⟨h1, h2⟩

theorem ar_add {xt yt : TypeId} {x y : Operand} {a b : Int} (hx : ev L x = some (.one (.lit (.int .i64 a)))) (hy : ev L y = some (.one (.lit (.int .i64 b)))) (hr : -9223372036854775808 ≤ a + b ∧ a + b ≤ 9223372036854775807) (hn : d < E.n)
    (hk : K ((d, .one (.lit (.int .i64 (a + b)))) :: L) h) : ar P ⟨some d, .binOp .add xt x y yt, ty, pos, af, gd⟩ E K L h :=
  ar_bin hx hy (by simp) (fun w => by simp [binOp, Op.intArith, wrap_in hr.1 hr.2]) (fun _ _ => wf_i64 hr.1 hr.2) hn hk
theorem ar_sub {xt yt : TypeId} {x y : Operand} {a b : Int} (hx : ev L x = some (.one (.lit (.int .i64 a)))) (hy : ev L y = some (.one (.lit (.int .i64 b)))) (hr : -9223372036854775808 ≤ a - b ∧ a - b ≤ 9223372036854775807) (hn : d < E.n)
    (hk : K ((d, .one (.lit (.int .i64 (a - b)))) :: L) h) : ar P ⟨some d, .binOp .sub xt x y yt, ty, pos, af, gd⟩ E K L h :=
  ar_bin hx hy (by simp) (fun w => by simp [binOp, Op.intArith, wrap_in hr.1 hr.2]) (fun _ _ => wf_i64 hr.1 hr.2) hn hk
theorem ar_mul {xt yt : TypeId} {x y : Operand} {a b : Int} (hx : ev L x = some (.one (.lit (.int .i64 a)))) (hy : ev L y = some (.one (.lit (.int .i64 b)))) (hr : -9223372036854775808 ≤ a * b ∧ a * b ≤ 9223372036854775807) (hn : d < E.n)
    (hk : K ((d, .one (.lit (.int .i64 (a * b)))) :: L) h) : ar P ⟨some d, .binOp .mul xt x y yt, ty, pos, af, gd⟩ E K L h :=
  ar_bin hx hy (by simp) (fun w => by simp [binOp, Op.intArith, wrap_in hr.1 hr.2]) (fun _ _ => wf_i64 hr.1 hr.2) hn hk
/-- A comparison of two integers. -/
def cmpI : BinOp → Int → Int → Bool
  | .eql, a, b => decide (a = b)
  | .neq, a, b => !decide (a = b)
  | .lss, a, b => decide (a < b)
  | .leq, a, b => decide (a ≤ b)
  | .gtr, a, b => decide (b < a)
  | .geq, a, b => decide (b ≤ a)
  | _, _, _ => false
def isCmp : BinOp → Bool
  | .eql | .neq | .lss | .leq | .gtr | .geq => true
  | _ => false
theorem ar_cmp {op : BinOp} {xt yt : TypeId} {x y : Operand} {k : IntKind} {a b : Int} (ho : isCmp op = true) (hx : ev L x = some (.one (.lit (.int k a)))) (hy : ev L y = some (.one (.lit (.int k b)))) (hn : d < E.n)
    (hk : K ((d, .one (.lit (.bool (cmpI op a b)))) :: L) h) : ar P ⟨some d, .binOp op xt x y yt, ty, pos, af, gd⟩ E K L h :=
  ar_bin (c := .bool (cmpI op a b)) hx hy (by simp) (fun w => by cases op <;> first | (cases ho; done) | (simp [binOp, Op.intCmp, cmpI, bne]; try rfl)) (fun _ _ => trivial) hn hk
theorem ar_rem {xt yt : TypeId} {x y : Operand} {a b : Int} (hx : ev L x = some (.one (.lit (.int .i64 a)))) (hy : ev L y = some (.one (.lit (.int .i64 b)))) (ha : 0 ≤ a) (hb : 0 < b) (hn : d < E.n)
    (hk : K ((d, .one (.lit (.int .i64 (a % b)))) :: L) h) : ar P ⟨some d, .binOp .rem xt x y yt, ty, pos, af, gd⟩ E K L h :=
  ar_bin hx hy (by simp) (fun w => by
    have : b ≠ 0 := by omega
    simp [binOp, Op.intDiv, this, Int.tmod_eq_emod_of_nonneg ha]) (fun ho _ => by
    have h1 := i64_wf ho
    have h2 := Int.emod_nonneg a (b := b) (by omega)
    have h4 := Int.emod_add_mul_ediv a b
    have h5 : 0 ≤ b * (a / b) := Int.mul_nonneg (by omega) (Int.ediv_nonneg ha (by omega))
    exact wf_i64 (by omega) (by omega)) hn hk
theorem ar_quo {xt yt : TypeId} {x y : Operand} {a b : Int} (hx : ev L x = some (.one (.lit (.int .i64 a)))) (hy : ev L y = some (.one (.lit (.int .i64 b)))) (ha : 0 ≤ a) (hb : 0 < b) (hn : d < E.n)
    (hk : K ((d, .one (.lit (.int .i64 (a / b)))) :: L) h) : ar P ⟨some d, .binOp .quo xt x y yt, ty, pos, af, gd⟩ E K L h :=
  ar_val rfl hn (fun _ _ act w r => by
    obtain ⟨e1, o1⟩ := (r.ev hx).lit
    obtain ⟨e2, o2⟩ := (r.ev hy).lit
    have h1 := i64_wf o1
    have h2 : 0 ≤ a / b := Int.ediv_nonneg ha (by omega)
    have h3 : a / b ≤ a := Int.ediv_le_self b ha
    refine ⟨_, ?_, .one (.lit (wf_i64 (n := a / b) (by omega) (by omega)))⟩
    have hb' : b ≠ 0 := by omega
    simp [execOp, e1, e2, eqGuard, binOp, Op.intDiv, hb', Int.tdiv_eq_ediv_of_nonneg ha, wrap_in (n := a / b) (by omega) (by omega)]) hk
/-- The bits of two numbers. -/
def bitsI (op : BinOp) (k : IntKind) (a b : Int) : Int :=
  match op with
  | .and => k.wrap ((BitVec.ofInt k.bits a &&& BitVec.ofInt k.bits b).toNat)
  | .or => k.wrap ((BitVec.ofInt k.bits a ||| BitVec.ofInt k.bits b).toNat)
  | .xor => k.wrap ((BitVec.ofInt k.bits a ^^^ BitVec.ofInt k.bits b).toNat)
  | .andNot => k.wrap ((BitVec.ofInt k.bits a &&& ~~~BitVec.ofInt k.bits b).toNat)
  | .shl => k.wrap (a * 2 ^ min b.toNat k.bits)
  | .shr => a.fdiv (2 ^ min b.toNat k.bits)
  | _ => 0
theorem wrap_ok (n : Int) : okLit (.int .i64 (IntKind.i64.wrap n)) := by
  rw [IntKind.wrap_i64]
  exact wf_i64 (by omega) (by omega)
theorem ar_bits {op : BinOp} {xt yt : TypeId} {x y : Operand} {a b : Int} (ho : (match op with | .and | .or | .xor | .andNot => true | _ => false) = true) (hx : ev L x = some (.one (.lit (.int .i64 a)))) (hy : ev L y = some (.one (.lit (.int .i64 b)))) (hn : d < E.n)
    (hk : K ((d, .one (.lit (.int .i64 (bitsI op .i64 a b)))) :: L) h) : ar P ⟨some d, .binOp op xt x y yt, ty, pos, af, gd⟩ E K L h :=
  ar_bin hx hy (by simp) (fun w => by cases op <;> first | (cases ho; done) | (simp [binOp, Op.intBits, bitsI])) (fun _ _ => by cases op <;> first | (cases ho; done) | exact wrap_ok _) hn hk
theorem ar_shl {xt yt : TypeId} {x y : Operand} {k : IntKind} {a b : Int} (hx : ev L x = some (.one (.lit (.int .i64 a)))) (hy : ev L y = some (.one (.lit (.int k b)))) (hb : 0 ≤ b) (hn : d < E.n)
    (hk : K ((d, .one (.lit (.int .i64 (bitsI .shl .i64 a b)))) :: L) h) : ar P ⟨some d, .binOp .shl xt x y yt, ty, pos, af, gd⟩ E K L h :=
  ar_bin hx hy (by simp) (fun w => by have : ¬ b < 0 := by omega
                                      simp only [binOp, Op.shift, this, if_false]; rfl) (fun _ _ => wrap_ok _) hn hk
theorem ar_not {xt : TypeId} {x : Operand} {b : Bool} (hx : ev L x = some (.one (.lit (.bool b)))) (hn : d < E.n) (hk : K ((d, .one (.lit (.bool (!b)))) :: L) h) : ar P ⟨some d, .unOp .not xt x, ty, pos, af, gd⟩ E K L h :=
  ar_val rfl hn (fun _ _ a w r => ⟨.bool (!b), by simp [execOp, (r.ev hx).bool, Op.unary], .one (.lit trivial)⟩) hk
theorem ar_neg {xt : TypeId} {x : Operand} {a : Int} (hx : ev L x = some (.one (.lit (.int .i64 a)))) (hr : -9223372036854775808 < a) (hn : d < E.n) (hk : K ((d, .one (.lit (.int .i64 (-a)))) :: L) h) : ar P ⟨some d, .unOp .neg xt x, ty, pos, af, gd⟩ E K L h :=
  ar_val rfl hn (fun _ _ act w r => by
    obtain ⟨e1, o1⟩ := (r.ev hx).lit
    have h1 := i64_wf o1
    exact ⟨.int .i64 (-a), by simp [execOp, e1, Op.unary, Op.intArith, wrap_in (n := -a) (by omega) (by omega)], .one (.lit (wf_i64 (by omega) (by omega)))⟩) hk

/-- Sums, differences and products as the machine has them. -/
def arithI : BinOp → Int → Int → Int
  | .add, a, b => IntKind.i64.wrap (a + b)
  | .sub, a, b => IntKind.i64.wrap (a - b)
  | .mul, a, b => IntKind.i64.wrap (a * b)
  | _, _, _ => 0
theorem ar_arith {op : BinOp} {xt yt : TypeId} {x y : Operand} {a b : Int} (ho : (match op with | .add | .sub | .mul => true | _ => false) = true) (hx : ev L x = some (.one (.lit (.int .i64 a)))) (hy : ev L y = some (.one (.lit (.int .i64 b)))) (hn : d < E.n)
    (hk : K ((d, .one (.lit (.int .i64 (arithI op a b)))) :: L) h) : ar P ⟨some d, .binOp op xt x y yt, ty, pos, af, gd⟩ E K L h :=
  ar_bin hx hy (by simp) (fun w => by cases op <;> first | (cases ho; done) | (simp [binOp, Op.intArith, arithI])) (fun _ _ => by cases op <;> first | (cases ho; done) | exact wrap_ok _) hn hk
theorem fdiv_bounds {a : Int} {n : Nat} (h1 : -9223372036854775808 ≤ a) (h2 : a ≤ 9223372036854775807) : -9223372036854775808 ≤ a.fdiv (2 ^ n) ∧ a.fdiv (2 ^ n) ≤ 9223372036854775807 := by
  have hp : (0 : Int) < 2 ^ n := Int.pow_pos (by decide)
  rw [Int.fdiv_eq_ediv_of_nonneg _ (Int.le_of_lt hp)]
  constructor
  · have := Int.mul_ediv_self_le (x := a) (k := 2 ^ n) (by omega)
    rcases Int.lt_or_le (a / 2 ^ n) (-9223372036854775808) with h | h
    · have h3 : a / 2 ^ n < 0 := by omega
      have h4 := Int.lt_mul_ediv_self_add (x := a) hp
      have h5 : 2 ^ n * (a / 2 ^ n) ≤ 1 * (a / 2 ^ n) := Int.mul_le_mul_of_nonpos_right (by omega) (by omega)
      rcases Int.lt_or_le a 0 with ha | ha
      · have : a ≤ a / 2 ^ n := by
          rw [Int.le_ediv_iff_mul_le hp]
          have : a * 2 ^ n ≤ a * 1 := Int.mul_le_mul_of_nonpos_left (by omega) (by omega)
          omega
        omega
      · have := Int.ediv_nonneg ha (Int.le_of_lt hp)
        omega
    · exact h
  · rcases Int.lt_or_le a 0 with ha | ha
    · have : a / 2 ^ n < 0 := Int.ediv_neg_of_neg_of_pos ha hp
      omega
    · have := Int.ediv_le_self (2 ^ n) ha
      omega
theorem ar_shr {xt yt : TypeId} {x y : Operand} {k : IntKind} {a b : Int} (hx : ev L x = some (.one (.lit (.int .i64 a)))) (hy : ev L y = some (.one (.lit (.int k b)))) (hb : 0 ≤ b) (hn : d < E.n)
    (hk : K ((d, .one (.lit (.int .i64 (bitsI .shr .i64 a b)))) :: L) h) : ar P ⟨some d, .binOp .shr xt x y yt, ty, pos, af, gd⟩ E K L h :=
  ar_bin hx hy (by simp) (fun w => by have : ¬ b < 0 := by omega
                                      simp only [binOp, Op.shift, this, if_false]; rfl) (fun o1 _ => by
    have h1 := i64_wf o1
    have := fdiv_bounds (n := min b.toNat IntKind.i64.bits) h1.1 h1.2
    exact wf_i64 this.1 this.2) hn hk
/-- A number of another kind. -/
theorem ar_convI {tb : Tbl} (htb : TbOK P tb) {src dst : TypeId} {x : Operand} {k : IntKind} {a : Int} {i j : TyI} (hx : ev L x = some (.one (.lit (.int k a)))) (hs : tb.lookup src = some i) (hd : tb.lookup dst = some j) (hj : j.desc = .int .i64) (hr : -9223372036854775808 ≤ a ∧ a ≤ 9223372036854775807) (hn : d < E.n)
    (hk : K ((d, .one (.lit (.int .i64 a))) :: L) h) : ar P ⟨some d, .convert src dst x, ty, pos, af, gd⟩ E K L h :=
  ar_val rfl hn (fun _ _ act w r => by
    obtain ⟨e1, o1⟩ := (r.ev hx).lit
    obtain ⟨_, _, h2, _⟩ := tyOf_some (htb src i hs)
    obtain ⟨_, _, g2, _⟩ := tyOf_some (htb dst j hd)
    rw [hj] at g2
    refine ⟨.int .i64 a, ?_, .one (.lit (wf_i64 hr.1 hr.2))⟩
    simp [execOp, convert, run_underlying h2, run_underlying g2, e1, Conv.intToInt, wrap_in hr.1 hr.2]) hk
/-- Bytes. -/
theorem u8_wf {n : Int} (h : okLit (.int .u8 n)) : 0 ≤ n ∧ n ≤ 255 := by
  have h : (Lit.int .u8 n).wf = true := h
  simp [Lit.wf, IntKind.min, IntKind.max, IntKind.signed, IntKind.bits] at h
  omega
theorem ar_convU8 {tb : Tbl} (htb : TbOK P tb) {src dst : TypeId} {x : Operand} {a : Int} {i j : TyI} (hx : ev L x = some (.one (.lit (.int .u8 a)))) (hs : tb.lookup src = some i) (hd : tb.lookup dst = some j) (hj : j.desc = .int .i64) (hn : d < E.n)
    (hk : K ((d, .one (.lit (.int .i64 a))) :: L) h) : ar P ⟨some d, .convert src dst x, ty, pos, af, gd⟩ E K L h :=
  ar_val rfl hn (fun _ _ act w r => by
    obtain ⟨e1, o1⟩ := (r.ev hx).lit
    have hr := u8_wf o1
    obtain ⟨_, _, h2, _⟩ := tyOf_some (htb src i hs)
    obtain ⟨_, _, g2, _⟩ := tyOf_some (htb dst j hd)
    rw [hj] at g2
    refine ⟨.int .i64 a, ?_, .one (.lit (wf_i64 (by omega) (by omega)))⟩
    simp [execOp, convert, run_underlying h2, run_underlying g2, e1, Conv.intToInt, wrap_in (n := a) (by omega) (by omega)]) hk
end
end Go.Proofs.Ytagnfckihdlhpaa.Abs

/-
  The abstract program logic: operations that read memory or compute addresses. For any program.
-/
namespace Go.Proofs.Ytagnfckihdlhpaa.Abs
open Go.RowKit

section
variable {ι : List Inf} {I : Nat → Prop} {w : World}

theorem AR.one' {v : V} {c : Value} (h : AR ι I w (.one v) c) : VR I w ι v c := by cases h with | one h => exact h
theorem VR.immSlice {s : Nat} {es : List (List V)} {c : Value} (h : VR I w ι (.imm s es) c) : ∃ A cap, c = .slice A es.length cap ∧ es.length ≤ cap ∧ cap ≤ 9223372036854775807 := by
  cases h with
  | imm0 hc => exact ⟨_, _, rfl, Nat.zero_le _, hc⟩
  | imm hs hc hm hI hcell hr => exact ⟨_, _, rfl, hc, hm⟩
/-- A slice of own elements, whole. -/
theorem VR.ownSlice {id off len : Nat} {c : Value} (h : VR I w ι (.own id off len) c) : ∃ A cap, c = .slice A len cap ∧ len ≤ cap ∧ cap ≤ 9223372036854775807 := by
  cases h with
  | own hi hl hcap hm => exact ⟨_, _, rfl, hl, hm⟩
  | own0 hi hcap => exact ⟨_, _, rfl, Nat.le_refl _, by omega⟩

/-- An immutable row: where its elements lie. -/
theorem VR.immAt {s : Nat} {es : List (List V)} {A : Option Addr} {n cap : Nat} (h : VR I w ι (.imm s es) (.slice A n cap)) {k : Nat} {e : List V} (hk : es[k]? = some e) :
    ∃ b off, A = some ⟨b, off, none⟩ ∧ n = es.length ∧ k < n ∧ VR I w ι (.iptr e) (.pointer (some ⟨b, off + k * s, none⟩)) := by
  obtain ⟨hlt, rfl⟩ := List.getElem?_eq_some_iff.1 hk
  cases h with
  | imm0 hc => simp at hlt
  | @imm _ _ b off _ _ f hs hc hm hI hcell hr =>
    refine ⟨b, off, rfl, rfl, hlt, .iptr (f := f k) hI (fun j hj => ?_) (fun j hj => hr k hlt j hj)⟩
    have hl := hs es[k] (List.getElem_mem hlt)
    have := hcell k j hlt (by omega)
    rw [Nat.add_assoc]
    exact this

theorem AR.len {v : V} {n : Nat} {c : Value} (h : AR ι I w (.one v) c) (hv : (∃ s es, v = .imm s es ∧ es.length = n) ∨ (∃ s es, v = .immc s es ∧ es.length = n) ∨ (∃ id off, v = .own id off n) ∨ (v = .lit (.slice none 0 0) ∧ n = 0)) :
    ∃ A cap, c = .slice A n cap ∧ n ≤ cap ∧ cap ≤ 9223372036854775807 := by
  rcases hv with ⟨s, es, rfl, rfl⟩ | ⟨s, es, rfl, rfl⟩ | ⟨id, off, rfl⟩ | ⟨rfl, rfl⟩
  · exact h.one'.immSlice
  · cases h.one' with
    | immc0 => exact ⟨_, _, rfl, Nat.le_refl _, by simp⟩
    | immc hs hm hI hcell hr => exact ⟨_, _, rfl, Nat.le_refl _, hm⟩
  · exact h.one'.ownSlice
  · cases h.one' with | lit h => exact ⟨_, _, rfl, Nat.le_refl _, by simp⟩
end

/-- How many elements a slice has. -/
def lenV : V → Option Nat
  | .imm _ es => some es.length
  | .immc _ es => some es.length
  | .own _ _ n => some n
  | .lit (.slice none 0 0) => some 0
  | _ => none
theorem AR.lenV {ι : List Inf} {I : Nat → Prop} {w : World} {v : V} {n : Nat} {c : Value} (h : AR ι I w (.one v) c) (hv : Abs.lenV v = some n) : ∃ A cap, c = .slice A n cap ∧ n ≤ cap ∧ cap ≤ 9223372036854775807 := by
  refine h.len ?_
  unfold Abs.lenV at hv
  split at hv
  · rename_i s es; cases hv; exact .inl ⟨s, es, rfl, rfl⟩
  · rename_i s es; cases hv; exact .inr (.inl ⟨s, es, rfl, rfl⟩)
  · rename_i id off n'; cases hv; exact .inr (.inr (.inl ⟨id, off, rfl⟩))
  · cases hv; exact .inr (.inr (.inr ⟨rfl, rfl⟩))
  · cases hv

/-- What a load of a type makes of cells. -/
def ldAV (agg : Bool) (size : Nat) (cs : List V) : Option AV :=
  if agg then (if size ≤ cs.length then some (.agg (cs.take size)) else none) else cs.head?.map .one

section
variable {P : Program} {E : Cx} {K : Env → Heap → Prop} {L : Env} {h : Heap} {d : Nat} {ty : TypeId} {pos : String} {af : Array Edge} {gd : Option (Nat × Bool)} {tb : Tbl}

theorem ar_len (htb : TbOK P tb) {t : TypeId} {x : Operand} {v : V} {n : Nat} {el : ElI} (hx : ev L x = some (.one v)) (hv : lenV v = some n) (he : elOf tb t = some el) (hn : d < E.n) (hk : K ((d, .one (.lit (.int .i64 n))) :: L) h) :
    ar P ⟨some d, .call ⟨.builtin .len, #[x], #[t]⟩, ty, pos, af, gd⟩ E K L h :=
  ar_val rfl hn (fun _ _ a w r => by
    obtain ⟨A, cap, e, h1, h2⟩ := (r.ev hx).lenV hv
    refine ⟨.int .i64 n, ?_, .one (.lit (wf_i64 (by omega) (by omega)))⟩
    simp [execOp, resolve, invoke, builtin, Builtin.len_, e, run_underlying (elOf_some htb he).1, goInt]) hk

/-- The length of a list's image. -/
theorem ar_lenMap (htb : TbOK P tb) {α : Type} {xs : List α} {g : α → List V} {t : TypeId} {x : Operand} {s : Nat} {el : ElI} (hx : ev L x = some (.one (.imm s (xs.map g)))) (he : elOf tb t = some el) (hn : d < E.n) (hk : K ((d, .one (.lit (.int .i64 xs.length))) :: L) h) :
    ar P ⟨some d, .call ⟨.builtin .len, #[x], #[t]⟩, ty, pos, af, gd⟩ E K L h :=
  ar_len htb hx (by simp [lenV]) he hn hk

theorem ar_lenStr (htb : TbOK P tb) {t : TypeId} {x : Operand} {s : ByteArray} {i : TyI} (hx : ev L x = some (.one (.lit (.string s)))) (ht : tb.lookup t = some i) (hi : i.desc = .string) (hn : d < E.n) (hk : K ((d, .one (.lit (.int .i64 s.size))) :: L) h) :
    ar P ⟨some d, .call ⟨.builtin .len, #[x], #[t]⟩, ty, pos, af, gd⟩ E K L h :=
  ar_val rfl hn (fun _ _ a w r => by
    obtain ⟨e, ho⟩ := (r.ev hx).lit
    have ho : s.size ≤ maxLen := ho
    unfold maxLen at ho
    obtain ⟨_, _, h2, _⟩ := tyOf_some (htb t i ht)
    rw [hi] at h2
    refine ⟨.int .i64 s.size, ?_, .one (.lit (wf_i64 (by omega) (by omega)))⟩
    simp [execOp, resolve, invoke, builtin, Builtin.len_, e, run_underlying h2, goInt]) hk

theorem info_run {t : TypeId} {n : Nat} (h : sizeIn P t = n) (hn : 0 < n) (w : World) : (sizeOf t).run P w = .ok n w := by
  obtain ⟨inf, h1, h2⟩ := info_of_size h hn
  simp [sizeOf, typeInfo, h1, h2]

theorem addr_add (b off n : Nat) : (⟨b, off, none⟩ : Addr).add n = ⟨b, off + n, none⟩ := by
  unfold Addr.add
  split
  · rename_i e; subst e; rfl
  · rfl

theorem ar_indexImm (htb : TbOK P tb) {t : TypeId} {x y : Operand} {s : Nat} {es : List (List V)} {k : IntKind} {i : Int} {e : List V} {el : ElI} (hx : ev L x = some (.one (.imm s es))) (hy : ev L y = some (.one (.lit (.int k i)))) (he : elOf tb t = some el) (hs : el.size = s) (hpos : 0 < s)
    (hi : 0 ≤ i) (hg : es[i.toNat]? = some e) (hn : d < E.n) (hk : K ((d, .one (.iptr e)) :: L) h) : ar P ⟨some d, .indexAddr t x y, ty, pos, af, gd⟩ E K L h :=
  ar_val rfl hn (fun _ _ a w r => by
    obtain ⟨A, cap, e1, h1, h2⟩ := (r.ev hx).one'.immSlice
    have hv := (r.ev hx).one'
    rw [e1] at hv
    obtain ⟨b, off, rfl, _, hlt, hp⟩ := hv.immAt hg
    obtain ⟨e2, _⟩ := (r.ev hy).lit
    obtain ⟨u1, u2, _⟩ := elOf_some htb he
    refine ⟨_, ?_, .one hp⟩
    have hlt' : i < es.length := by omega
    simp [execOp, Instr.indexAt, e1, e2, asIntOf, run_underlying u1, hi, hlt', info_run u2 (by omega), addr_add, hs]) hk

theorem Rel.row {ι : List Inf} {I : Nat → Prop} {a : Act} {w : World} (r : Rel E L h ι I a w) {id s : Nat} {es : List (List V)} (ho : h[id]? = some (some (.row s es))) : ∃ inf, ι[id]? = some inf ∧ OR ι I w inf (.row s es) ∧ inf.size = s := by
  have hlt := (List.getElem?_eq_some_iff.1 ho).1
  have hlt' : id < ι.length := by rw [← r.heap.len]; exact hlt
  have hi := List.getElem?_eq_getElem hlt'
  have := r.heap.obj id _ _ ho hi
  refine ⟨_, hi, this, ?_⟩
  obtain ⟨_, _, _, h2, _⟩ := this
  exact h2

theorem ar_indexOwn (htb : TbOK P tb) {t : TypeId} {x y : Operand} {s id off len : Nat} {es : List (List V)} {k : IntKind} {i : Int} {el : ElI} (hx : ev L x = some (.one (.own id off len))) (hy : ev L y = some (.one (.lit (.int k i)))) (he : elOf tb t = some el)
    (ho : h[id]? = some (some (.row s es))) (hs : el.size = s) (hpos : 0 < s) (hi : 0 ≤ i) (hlt : i < len) (hn : d < E.n) (hk : K ((d, .one (.ptr id (off + i.toNat) 0)) :: L) h) : ar P ⟨some d, .indexAddr t x y, ty, pos, af, gd⟩ E K L h :=
  ar_val rfl hn (fun ι I a w r => by
    obtain ⟨inf, hι, _, hsz⟩ := r.row ho
    obtain ⟨e2, _⟩ := (r.ev hy).lit
    obtain ⟨u1, u2, _⟩ := elOf_some htb he
    have hv := (r.ev hx).one'
    generalize hc : a.eval x = c at hv
    cases hv with
    | own0 hi' hcap => omega
    | @own _ _ _ _ cap inf' hi' hl hcap hm =>
      have : inf' = inf := by rw [hι] at hi'; cases hi'; rfl
      subst this
      refine ⟨_, ?_, .one (.ptr (k := off + i.toNat) (o := 0) hι)⟩
      simp [execOp, Instr.indexAt, hc, e2, asIntOf, run_underlying u1, hi, hlt, info_run u2 (by omega), addr_add, hs, hsz, Nat.add_mul, Nat.add_assoc]) hk

theorem load_run {ι : List Inf} {I : Nat → Prop} {w : World} (htb : TbOK P tb) {t : TypeId} {i : TyI} (ht : tb.lookup t = some i) {b off : Nat} {cs : List V} {f : Nat → Value} {v : AV} (hcell : ∀ j, j < cs.length → w.cell? ⟨b, off + j, none⟩ = some (f j))
    (hr : ∀ (j : Nat) (hj : j < cs.length), VR I w ι cs[j] (f j)) (hl : ldAV i.agg i.size cs = some v) : ∃ c, (loadVar t ⟨b, off, none⟩).run P w = .ok c w ∧ AR ι I w v c := by
  obtain ⟨inf, h1, h2, h3, _, h5, _⟩ := tyOf_some (htb t i ht)
  unfold ldAV at hl
  split at hl
  · rename_i hagg
    split at hl
    · rename_i hle
      cases hl
      have hrun := run_loadCells (P := P) w ⟨b, off, none⟩ i.size f (fun j hj => by rw [addr_add]; exact hcell j (by omega))
      have hisagg : (isAgg t).run P w = .ok true w := by
        rw [hagg] at h5
        simp [isAgg, run_underlying h2]
        revert h5
        cases i.desc <;> simp
      refine ⟨.agg ((List.range i.size).map f).toArray, ?_, ?_⟩
      · simp [loadVar, hisagg, sizeOf, typeInfo, h1, h3, hrun]
      · refine .agg (f := f) (by simp; omega) (fun j hj => ?_) (fun j hj => ?_)
        · simp at hj
          simp
          exact ⟨j, List.getElem?_range (by omega), rfl⟩
        · simp at hj
          rw [List.getElem_take]
          exact hr j (by omega)
    · cases hl
  · rename_i hagg
    have hagg : i.agg = false := by simpa using hagg
    cases cs with
    | nil => simp at hl
    | cons c0 cs =>
      simp at hl
      subst hl
      have hisagg : (isAgg t).run P w = .ok false w := by
        rw [hagg] at h5
        simp [isAgg, run_underlying h2]
        revert h5
        cases i.desc <;> simp
      have h0 := hcell 0 (by simp)
      refine ⟨f 0, ?_, .one (hr 0 (by simp))⟩
      simp [loadVar, hisagg]
      rw [Nat.add_zero] at h0
      simp [h0]

theorem ar_loadI (htb : TbOK P tb) {t : TypeId} {x : Operand} {cs : List V} {i : TyI} {v : AV} (hx : ev L x = some (.one (.iptr cs))) (ht : tb.lookup t = some i) (hl : ldAV i.agg i.size cs = some v) (hn : d < E.n) (hk : K ((d, v) :: L) h) : ar P ⟨some d, .load t x, ty, pos, af, gd⟩ E K L h :=
  ar_val rfl hn (fun ι I a w r => by
    have hv := (r.ev hx).one'
    generalize hc : a.eval x = c at hv
    cases hv with
    | iptr hI hcell hr =>
      obtain ⟨c, h1, h2⟩ := load_run htb ht hcell (fun j hj => (hr j hj).up) hl
      exact ⟨c, by simp [execOp, Instr.loadAt, Instr.sureAddr, hc, h1], h2⟩) hk

/-- The cells of an own object at a place. -/
theorem OR.cells {ι : List Inf} {I : Nat → Prop} {w : World} {inf : Inf} {s : Nat} {es : List (List V)} (hor : OR ι I w inf (.row s es)) {k o : Nat} {e : List V} (hk : es[k]? = some e) :
    ∃ f : Nat → Value, (∀ j, j < (e.drop o).length → w.cell? ⟨inf.block, inf.base + (k * s + o) + j, none⟩ = some (f j)) ∧ ∀ (j : Nat) (hj : j < (e.drop o).length), VR I w ι (e.drop o)[j] (f j) := by
  obtain ⟨cur, t, h1, h2, h3, h4, h5, h6, h7⟩ := hor
  obtain ⟨hlt, rfl⟩ := List.getElem?_eq_some_iff.1 hk
  refine ⟨fun j => cur.getD (inf.base + (k * s + o) + j) undef, fun j hj => ?_, fun j hj => ?_⟩
  all_goals
    simp at hj
    obtain ⟨u, hu, hv⟩ := h7 k hlt (o + j) (by omega)
    have e0 : inf.base + (k * s + (o + j)) = inf.base + (k * s + o) + j := by omega
    rw [e0] at hu
  · simp [World.cell?, h1, hu]
  · simp [hu]
    exact hv

theorem ar_loadO (htb : TbOK P tb) {t : TypeId} {x : Operand} {id k o s : Nat} {es : List (List V)} {e : List V} {i : TyI} {v : AV} (hx : ev L x = some (.one (.ptr id k o))) (ht : tb.lookup t = some i) (ho : h[id]? = some (some (.row s es))) (he : es[k]? = some e)
    (hl : ldAV i.agg i.size (e.drop o) = some v) (hn : d < E.n) (hk : K ((d, v) :: L) h) : ar P ⟨some d, .load t x, ty, pos, af, gd⟩ E K L h :=
  ar_val rfl hn (fun ι I a w r => by
    obtain ⟨inf, hι, hor, hsz⟩ := r.row ho
    have hv := (r.ev hx).one'
    generalize hc : a.eval x = c at hv
    cases hv with
    | @ptr _ _ _ _ inf' hi =>
      have : inf' = inf := by rw [hι] at hi; cases hi; rfl
      subst this
      obtain ⟨f, hcell, hr⟩ := hor.cells he (o := o)
      rw [← hsz] at hcell
      obtain ⟨c, h1, h2⟩ := load_run htb ht hcell hr hl
      exact ⟨c, by simp [execOp, Instr.loadAt, Instr.sureAddr, hc, h1], h2⟩) hk

theorem field_run (htb : TbOK P tb) {t : TypeId} {i : TyI} (ht : tb.lookup t = some i) {f off ft sz : Nat} (hf : i.fields[f]? = some (off, ft, sz)) (hz : 0 < sz) {b o : Nat} (w : World) :
    (Instr.fieldAt t (.pointer (some ⟨b, o, none⟩)) f).run P w = .ok (.pointer (some ⟨b, o + off, none⟩)) w := by
  obtain ⟨inf, h1, h2, h3, _, _, _, _, h8⟩ := tyOf_some (htb t i ht)
  rw [h8] at hf
  cases hd : i.desc with
  | struct fs =>
    rw [hd] at hf h2
    simp only [List.getElem?_map] at hf
    cases hfs : fs[f]? with
    | none => simp [hfs] at hf
    | some fl =>
      simp [hfs] at hf
      obtain ⟨rfl, rfl, hsz⟩ := hf
      have : ¬ (sz = 0) := by omega
      simp [Instr.fieldAt, run_underlying h2, hfs, Instr.sureAddr, fieldPlace, info_run hsz hz, this, addr_add]
  | _ => rw [hd] at hf; simp at hf

theorem ar_fieldI (htb : TbOK P tb) {t : TypeId} {x : Operand} {f off ft sz : Nat} {cs : List V} {i : TyI} (hx : ev L x = some (.one (.iptr cs))) (ht : tb.lookup t = some i) (hf : i.fields[f]? = some (off, ft, sz)) (hz : 0 < sz) (hn : d < E.n) (hk : K ((d, .one (.iptr (cs.drop off))) :: L) h) :
    ar P ⟨some d, .fieldAddr t x f, ty, pos, af, gd⟩ E K L h :=
  ar_val rfl hn (fun ι I a w r => by
    have hv := (r.ev hx).one'
    generalize hc : a.eval x = c at hv
    cases hv with
    | @iptr _ b o _ g hI hcell hr =>
      refine ⟨.pointer (some ⟨b, o + off, none⟩), by simp [execOp, hc, field_run htb ht hf hz], .one (.iptr (f := fun j => g (off + j)) hI (fun j hj => ?_) (fun j hj => ?_))⟩
      · simp at hj
        rw [Nat.add_assoc]
        exact hcell (off + j) (by omega)
      · simp at hj
        rw [List.getElem_drop]
        exact hr (off + j) (by omega)) hk

theorem ar_fieldO (htb : TbOK P tb) {t : TypeId} {x : Operand} {f off ft sz id k o : Nat} {i : TyI} (hx : ev L x = some (.one (.ptr id k o))) (ht : tb.lookup t = some i) (hf : i.fields[f]? = some (off, ft, sz)) (hz : 0 < sz) (hn : d < E.n) (hk : K ((d, .one (.ptr id k (o + off))) :: L) h) :
    ar P ⟨some d, .fieldAddr t x f, ty, pos, af, gd⟩ E K L h :=
  ar_val rfl hn (fun ι I a w r => by
    have hv := (r.ev hx).one'
    generalize hc : a.eval x = c at hv
    cases hv with
    | @ptr _ _ _ _ inf hi =>
      exact ⟨_, by simp [execOp, hc, field_run htb ht hf hz, Nat.add_assoc], .one (.ptr hi)⟩) hk

theorem ar_nilP {x : Operand} {id k o : Nat} (hx : ev L x = some (.one (.ptr id k o))) (hn : d < E.n) (hk : K ((d, .one (.ptr id k o)) :: L) h) : ar P ⟨some d, .nilCheck x, ty, pos, af, gd⟩ E K L h :=
  ar_val rfl hn (fun ι I a w r => by
    have hv := (r.ev hx).one'
    generalize hc : a.eval x = c at hv
    cases hv with
    | ptr hi => exact ⟨_, by simp [execOp, hc], .one (.ptr hi)⟩) hk
theorem ar_nilI {x : Operand} {cs : List V} (hx : ev L x = some (.one (.iptr cs))) (hn : d < E.n) (hk : K ((d, .one (.iptr cs)) :: L) h) : ar P ⟨some d, .nilCheck x, ty, pos, af, gd⟩ E K L h :=
  ar_val rfl hn (fun ι I a w r => by
    have hv := (r.ev hx).one'
    generalize hc : a.eval x = c at hv
    cases hv with
    | iptr hI hcell hr => exact ⟨_, by simp [execOp, hc], .one (.iptr hI hcell hr)⟩) hk
theorem ar_extract {x : Operand} {j : Nat} {xs : List AV} {v : AV} (hx : ev L x = some (.tup xs)) (hj : xs[j]? = some v) (hn : d < E.n) (hk : K ((d, v) :: L) h) : ar P ⟨some d, .extract x j, ty, pos, af, gd⟩ E K L h :=
  ar_val rfl hn (fun ι I a w r => by
    have hv := r.ev hx
    generalize hc : a.eval x = c at hv
    obtain ⟨hlt, rfl⟩ := List.getElem?_eq_some_iff.1 hj
    cases hv with
    | tup hl hcs hr => exact ⟨_, by simp [execOp, hc, Instr.extract, hcs j hlt], hr j hlt⟩) hk

/-- A part of a struct's value. -/
theorem ar_part (htb : TbOK P tb) {t : TypeId} {x : Operand} {f off ft sz : Nat} {vs : List V} {i fi : TyI} {v : AV} (hx : ev L x = some (.agg vs)) (ht : tb.lookup t = some i) (hf : i.fields[f]? = some (off, ft, sz)) (hft : tb.lookup ft = some fi)
    (hl : ldAV fi.agg fi.size (vs.drop off) = some v) (hn : d < E.n) (hk : K ((d, v) :: L) h) : ar P ⟨some d, .field t x f, ty, pos, af, gd⟩ E K L h :=
  ar_val rfl hn (fun ι I a w r => by
    have hv := r.ev hx
    generalize hc : a.eval x = c at hv
    obtain ⟨inf, h1, h2, h3, _, _, _, _, h8⟩ := tyOf_some (htb t i ht)
    obtain ⟨inf', g1, g2, g3, _, g5, _⟩ := tyOf_some (htb ft fi hft)
    rw [h8] at hf
    cases hd : i.desc with
    | struct fs =>
      rw [hd] at hf h2
      simp only [List.getElem?_map] at hf
      cases hfs : fs[f]? with
      | none => simp [hfs] at hf
      | some fl =>
        simp [hfs] at hf
        obtain ⟨rfl, rfl, hsz⟩ := hf
        cases hv with
        | @agg _ cs g hl' hcs hr =>
          unfold ldAV at hl
          split at hl
          · rename_i hagg
            split at hl
            · rename_i hle
              cases hl
              have hisagg : (isAgg fl.type).run P w = .ok true w := by
                rw [hagg] at g5
                simp [isAgg, run_underlying g2]
                revert g5
                cases fi.desc <;> simp
              refine ⟨.agg (cs.extract fl.offset (fl.offset + fi.size)), ?_, ?_⟩
              · simp [execOp, hc, Instr.field, run_underlying h2, hfs, asAgg, part, hisagg, sizeOf, typeInfo, g1, g3]
              · simp at hle
                refine .agg (f := fun j => g (fl.offset + j)) (by simp; omega) (fun j hj => ?_) (fun j hj => ?_)
                · simp at hj
                  rw [Array.getElem?_extract]
                  rw [if_pos (by omega)]
                  exact hcs _ (by omega)
                · simp at hj
                  simp only [List.getElem_take, List.getElem_drop]
                  exact hr _ (by omega)
            · cases hl
          · rename_i hagg
            have hagg : fi.agg = false := by simpa using hagg
            cases hdr : vs.drop fl.offset with
            | nil => simp [hdr] at hl
            | cons c0 rest =>
              simp [hdr] at hl
              subst hl
              have hlt : fl.offset < vs.length := by
                rcases Nat.lt_or_ge fl.offset vs.length with h | h
                · exact h
                · rw [List.drop_eq_nil_of_le h] at hdr; cases hdr
              have hisagg : (isAgg fl.type).run P w = .ok false w := by
                rw [hagg] at g5
                simp [isAgg, run_underlying g2]
                revert g5
                cases fi.desc <;> simp
              have hc0 : vs[fl.offset] = c0 := by
                have := List.getElem_drop (xs := vs) (i := fl.offset) (j := 0) (h := by simp; omega)
                simp [hdr] at this
                exact this.symm
              refine ⟨g fl.offset, ?_, .one (hc0 ▸ hr _ hlt)⟩
              simp [execOp, hc, Instr.field, run_underlying h2, hfs, asAgg, part, hisagg, hcs _ hlt]
    | _ => rw [hd] at hf; simp at hf) hk

/-- The element of a row that is a list's image. -/
theorem ar_indexMap (htb : TbOK P tb) {α : Type} {xs : List α} {g : α → List V} {t : TypeId} {x y : Operand} {s k : Nat} {kd : IntKind} {i : Int} {el : ElI} (hx : ev L x = some (.one (.imm s (xs.map g)))) (hy : ev L y = some (.one (.lit (.int kd i)))) (he : elOf tb t = some el)
    (hs : el.size = s) (hpos : 0 < s) (hi : i = (k : Int)) (hlt : k < xs.length) (hn : d < E.n) (hk : ∀ z, xs[k]? = some z → K ((d, .one (.iptr (g z))) :: L) h) : ar P ⟨some d, .indexAddr t x y, ty, pos, af, gd⟩ E K L h := by
  subst hi
  exact ar_indexImm htb hx hy he hs hpos (by omega) (e := g xs[k]) (by simp [hlt]) hn (hk _ (List.getElem?_eq_getElem hlt))

/-- The bits of slices of immutable data. -/
theorem sliceBounds_run (w : World) {isS : Bool} {len cap lo hi : Nat} {kl kh : IntKind} {low high : Option Value} (hlow : low = none ∧ lo = 0 ∨ low = some (.int kl lo)) (hhigh : high = none ∧ hi = len ∨ high = some (.int kh hi)) (h1 : lo ≤ hi) (h2 : hi ≤ cap) :
    (Instr.sliceBounds isS len cap low high none).run P w = .ok (lo, hi, cap) w := by
  rcases hlow with ⟨rfl, rfl⟩ | rfl <;> rcases hhigh with ⟨rfl, rfl⟩ | rfl <;> simp [Instr.sliceBounds, Instr.sliceBound, asIntOf, h1, h2]

theorem VR.immSub {ι : List Inf} {I : Nat → Prop} {w : World} {s lo hi cap : Nat} {es : List (List V)} {A : Option Addr} (h : VR I w ι (.imm s es) (.slice A es.length cap)) (h1 : lo ≤ hi) (h2 : hi ≤ es.length) (h3 : es.length ≤ cap) :
    VR I w ι (.imm s ((es.take hi).drop lo)) (.slice (if cap = lo then A else A.map (·.add (lo * s))) (hi - lo) (cap - lo)) := by
  have hl : ((es.take hi).drop lo).length = hi - lo := by simp; omega
  by_cases he : hi = lo
  · subst he
    have e0 : (es.take hi).drop hi = [] := List.eq_nil_of_length_eq_zero (by rw [hl]; omega)
    rw [e0, Nat.sub_self]
    cases h with
    | imm0 hc => exact .imm0 (by omega)
    | imm hs hc hm hI hcell hr => exact .imm0 (by omega)
  · cases h with
    | imm0 hc => simp at h2; omega
    | @imm _ _ b off _ _ f hs hc hm hI hcell hr =>
      rw [if_neg (by omega)]
      simp only [Option.map_some, addr_add]
      rw [← hl]
      refine .imm (f := fun k j => f (lo + k) j) (fun e he => hs e (List.mem_of_mem_take (List.mem_of_mem_drop he))) (by rw [hl]; omega) (by omega) hI (fun k j h4 h5 => ?_) (fun k hk j hj => ?_)
      · rw [hl] at h4
        have := hcell (lo + k) j (by omega) h5
        rw [← this]
        congr 2
        rw [Nat.add_mul]; omega
      · rw [hl] at hk
        simp only [List.getElem_drop, List.getElem_take] at hj ⊢
        exact hr (lo + k) (by omega) j hj

/-- x[lo:hi] of immutable data; low or high may be left out. -/
theorem ar_sliceImm (htb : TbOK P tb) {t : TypeId} {x : Operand} {low high : Option Operand} {s lo hi : Nat} {es : List (List V)} {kl kh : IntKind} {el : ElI} (hx : ev L x = some (.one (.imm s es))) (he : elOf tb t = some el) (hs : el.size = s) (hpos : 0 < s)
    (hlow : low = none ∧ lo = 0 ∨ ∃ y, low = some y ∧ ev L y = some (.one (.lit (.int kl lo)))) (hhigh : high = none ∧ hi = es.length ∨ ∃ y, high = some y ∧ ev L y = some (.one (.lit (.int kh hi)))) (h1 : lo ≤ hi) (h2 : hi ≤ es.length) (hn : d < E.n)
    (hk : K ((d, .one (.imm s ((es.take hi).drop lo))) :: L) h) : ar P ⟨some d, .slice t x low high none, ty, pos, af, gd⟩ E K L h :=
  ar_val rfl hn (fun ι I a w r => by
    obtain ⟨A, cap, e1, g1, g2⟩ := (r.ev hx).one'.immSlice
    have hv := (r.ev hx).one'
    rw [e1] at hv
    obtain ⟨u1, u2, _⟩ := elOf_some htb he
    have hl : low.map a.eval = none ∧ lo = 0 ∨ low.map a.eval = some (.int kl lo) := by
      rcases hlow with ⟨rfl, rfl⟩ | ⟨y, rfl, hy⟩
      · exact .inl ⟨rfl, rfl⟩
      · exact .inr (by simp [(r.ev hy).lit.1])
    have hh : high.map a.eval = none ∧ hi = es.length ∨ high.map a.eval = some (.int kh hi) := by
      rcases hhigh with ⟨rfl, rfl⟩ | ⟨y, rfl, hy⟩
      · exact .inl ⟨rfl, rfl⟩
      · exact .inr (by simp [(r.ev hy).lit.1])
    have hb := sliceBounds_run (P := P) w (isS := true) (len := es.length) (cap := cap) hl hh h1 (by omega)
    refine ⟨_, ?_, .one (hv.immSub h1 h2 g1)⟩
    simp [execOp, Instr.sliceAt, Instr.slice, e1, run_underlying u1, hb, info_run u2 (by omega), hs]) hk

/-- x[lo:hi] of own elements. -/
theorem ar_sliceOwn (htb : TbOK P tb) {t : TypeId} {x : Operand} {low high : Option Operand} {s id off len lo hi : Nat} {es : List (List V)} {kl kh : IntKind} {el : ElI} (hx : ev L x = some (.one (.own id off len))) (he : elOf tb t = some el) (ho : h[id]? = some (some (.row s es))) (hs : el.size = s) (hpos : 0 < s)
    (hlow : low = none ∧ lo = 0 ∨ ∃ y, low = some y ∧ ev L y = some (.one (.lit (.int kl lo)))) (hhigh : high = none ∧ hi = len ∨ ∃ y, high = some y ∧ ev L y = some (.one (.lit (.int kh hi)))) (h1 : lo ≤ hi) (h2 : hi ≤ len) (hn : d < E.n)
    (hk : K ((d, .one (.own id (off + lo) (hi - lo))) :: L) h) : ar P ⟨some d, .slice t x low high none, ty, pos, af, gd⟩ E K L h :=
  ar_val rfl hn (fun ι I a w r => by
    obtain ⟨inf, hι, _, hsz⟩ := r.row ho
    obtain ⟨u1, u2, _⟩ := elOf_some htb he
    have hl : low.map a.eval = none ∧ lo = 0 ∨ low.map a.eval = some (.int kl lo) := by
      rcases hlow with ⟨rfl, rfl⟩ | ⟨y, rfl, hy⟩
      · exact .inl ⟨rfl, rfl⟩
      · exact .inr (by simp [(r.ev hy).lit.1])
    have hh : high.map a.eval = none ∧ hi = len ∨ high.map a.eval = some (.int kh hi) := by
      rcases hhigh with ⟨rfl, rfl⟩ | ⟨y, rfl, hy⟩
      · exact .inl ⟨rfl, rfl⟩
      · exact .inr (by simp [(r.ev hy).lit.1])
    have hv := (r.ev hx).one'
    generalize hc : a.eval x = c at hv
    cases hv with
    | @own0 _ _ _ oo inf' hi' hcap =>
      have : inf' = inf := by rw [hι] at hi'; cases hi'; rfl
      subst this
      have e1 : lo = 0 := by omega
      have e2 : hi = 0 := by omega
      subst e1 e2
      have hb := sliceBounds_run (P := P) w (isS := true) (len := 0) (cap := 0) hl hh h1 (by omega)
      refine ⟨.slice (some ⟨inf'.block, oo, none⟩) 0 0, ?_, .one (.own0 (off := off + 0) hι hcap)⟩
      simp [execOp, Instr.sliceAt, Instr.slice, hc, run_underlying u1, hb, info_run u2 (by omega), hs]
    | @own _ _ _ _ cap inf' hi' hle hcap hm =>
      have : inf' = inf := by rw [hι] at hi'; cases hi'; rfl
      subst this
      have hb := sliceBounds_run (P := P) w (isS := true) (len := len) (cap := cap) hl hh h1 (by omega)
      by_cases hcl : cap = lo
      · refine ⟨.slice (some ⟨inf'.block, inf'.base + off * inf'.size, none⟩) (hi - lo) (cap - lo), ?_, ?_⟩
        · subst hcl
          simp [execOp, Instr.sliceAt, Instr.slice, hc, run_underlying u1, hb, info_run u2 (by omega), hs]
        · have e1 : hi - lo = 0 := by omega
          have e2 : cap - lo = 0 := by omega
          rw [e1, e2]
          exact .one (.own0 hι (by omega))
      · refine ⟨_, ?_, .one (.own (off := off + lo) (len := hi - lo) (c := cap - lo) hι (by omega) (by omega) (by omega))⟩
        simp [execOp, Instr.sliceAt, Instr.slice, hc, run_underlying u1, hb, info_run u2 (by omega), hs, hcl, addr_add, hsz, Nat.add_mul, Nat.add_assoc]) hk
end
end Go.Proofs.Ytagnfckihdlhpaa.Abs

/-
  Texts that the claim rests on, merged: AbsDraw, Draw.
-/
import Derived.Orders
import Derived.Test.YtjafncnjefnloaaZRowCons4

/-
  The abstract program logic: regions that draw their order. For any program.
-/
namespace Go.Proofs.Ytjafncnjefnloaa.Abs
open Go.RowKit

def bindD : Option Nat → AV → Env → Env
  | some d, v, L => (d, v) :: L
  | none, _, L => L
def sel (L : Env) : List Nat → Env
  | [] => []
  | t :: ts => match L.lookup t with
    | some v => (t, v) :: sel L ts
    | none => sel L ts
theorem sel_sub {L L' : Env} {ts : List Nat} (h : ∀ t ∈ ts, L'.lookup t = L.lookup t) : Sub (sel L ts) L' := by
  induction ts with
  | nil => exact sub_nil _
  | cons t ts ih =>
    have ih' := ih fun u hu => h u (by simp [hu])
    simp only [sel]
    split
    · rename_i v hv
      exact sub_cons ((h t (by simp)).trans hv) ih'
    · exact ih'

/-- What an operation of a region does, in abstract: it is run, or its guard says no. -/
inductive OT (P : Program) (ops : Array Oper) (E : Cx) (o : Oper) (L : Env) (v : AV) (h h' : Heap) : Prop
  | run (hg : o.guard = none) (hr : ar P o E (fun L2 h2 => L2 = bindD o.dst v L ∧ h2 = h') L h) : OT P ops E o L v h h'
  | runG {j d : Nat} {p want : Bool} (hg : o.guard = some (j, want)) (hj : gslot ops j = some d) (hd : L.lookup d = some (.one (.lit (.bool p)))) (hp : p = want) (hr : ar P o E (fun L2 h2 => L2 = bindD o.dst v L ∧ h2 = h') L h) : OT P ops E o L v h h'
  | skip {j d d' : Nat} {p want : Bool} (hg : o.guard = some (j, want)) (hj : gslot ops j = some d) (hd : L.lookup d = some (.one (.lit (.bool p)))) (hp : p = !want) (hdst : o.dst = some d') (hn : d' < E.n) (hv : v = .tup []) (hh : h' = h) : OT P ops E o L v h h'
  | skipU {j d d' : Nat} {want : Bool} (hg : o.guard = some (j, want)) (hj : gslot ops j = some d) (hd : L.lookup d = some (.tup [])) (hdst : o.dst = some d') (hn : d' < E.n) (hv : v = .tup []) (hh : h' = h) : OT P ops E o L v h h'

theorem lookup_none {L Lf : Env} {t : Nat} (h : L.lookup t = none) : (L ++ Lf).lookup t = Lf.lookup t := by
  induction L with
  | nil => rfl
  | cons p L ih =>
    obtain ⟨k, z⟩ := p
    rw [List.lookup_cons] at h
    rw [List.cons_append, List.lookup_cons]
    split
    · rename_i e; rw [e] at h; cases h
    · rename_i e; rw [e] at h; exact ih h
theorem lookup_sub {L Lg : Env} (hs : Sub L Lg) (t : Nat) : (L ++ Lg).lookup t = Lg.lookup t := by
  cases hl : L.lookup t with
  | some y => rw [lookup_app hl, hs t y hl]
  | none => exact lookup_none hl

theorem bindD_sub {L Lg : Env} {dst : Option Nat} {v : AV} (hs : Sub L Lg) : Sub (bindD dst v Lg) (bindD dst v L ++ Lg) := by
  intro t x hx
  cases dst with
  | none => show (L ++ Lg).lookup t = _; rw [lookup_sub hs]; exact hx
  | some d =>
    simp only [bindD, List.cons_append, List.lookup_cons] at hx ⊢
    split
    · rename_i e; rw [e] at hx; exact hx
    · rename_i e; rw [e] at hx; rw [lookup_sub hs]; exact hx

theorem OT.sound {P : Program} {ops : Array Oper} {E : Cx} {o : Oper} {L Lg : Env} {v : AV} {h h' : Heap} (ht : OT P ops E o L v h h') (hs : Sub L Lg) {i : Nat} (ho : ops[i]? = some o) {ι : List Inf} {I : Nat → Prop} {a : Act} {w : World} (r : Rel E Lg h ι I a w)
    {Q : Exit → Act → World → Prop} {K : Act → World → Prop} (hk : ∀ ι' I' a' w', Rel E (bindD o.dst v Lg) h' ι' I' a' w' → K a' w') : wpOp P ops Q i K a w := by
  have r2 : Rel E (L ++ Lg) h ι I a w := r.weaken (fun t x hx => by rw [lookup_sub hs] at hx; exact hx)
  unfold wpOp
  rw [ho]
  simp only []
  cases ht with
  | run hg hr =>
    rw [if_pos (by simp [Region.wanted, hg])]
    refine .inl (wp_mono2 ?_ (fun _ _ _ f => f.elim) (hr.get Lg ι I a w r2))
    rintro a' w' ⟨L', h2, ι', I', ⟨rfl, rfl⟩, r'⟩
    exact hk ι' I' a' w' (r'.weaken (bindD_sub hs))
  | runG hg hj hd hp hr =>
    have hy := r.yields (ops := ops) hj (hs _ _ hd)
    rw [if_pos (by simp [Region.wanted, hg, hy, hp])]
    refine .inl (wp_mono2 ?_ (fun _ _ _ f => f.elim) (hr.get Lg ι I a w r2))
    rintro a' w' ⟨L', h2, ι', I', ⟨rfl, rfl⟩, r'⟩
    exact hk ι' I' a' w' (r'.weaken (bindD_sub hs))
  | skip hg hj hd hp hdst hn hv hh =>
    have hy := r.yields (ops := ops) hj (hs _ _ hd)
    rw [if_neg (by simp [Region.wanted, hg, hy, hp]), hdst]
    subst hv hh
    rw [hdst] at hk
    exact hk ι I _ w (r.put hn AR.none_)
  | skipU hg hj hd hdst hn hv hh =>
    have hy := r.yieldsU (ops := ops) hj (hs _ _ hd)
    rw [if_neg (by simp [Region.wanted, hg, hy]), hdst]
    subst hv hh
    rw [hdst] at hk
    exact hk ι I _ w (r.put hn AR.none_)

/-- The environment behind operations, in the order of a list. -/
def runEnv (ops : Array Oper) (val : Nat → AV) : List Nat → Env → Env
  | [], L => L
  | i :: r, L => runEnv ops val r (bindD (gslot ops i) (val i) L)
def cnt (ch : List Nat) (l : List Nat) : Nat := l.countP ch.contains

theorem cnt_f {ch l : List Nat} {i : Nat} (h : ch.contains i = false) : cnt ch (i :: l) = cnt ch l := by unfold cnt; rw [List.countP_cons, h]; simp
theorem cnt_t {ch l : List Nat} {i : Nat} (h : ch.contains i = true) : cnt ch (i :: l) = cnt ch l + 1 := by unfold cnt; rw [List.countP_cons, h]; simp
theorem cnt_app (ch a b : List Nat) : cnt ch (a ++ b) = cnt ch a + cnt ch b := by simp [cnt]

def dirs (o : Oper) : List Nat := o.after.toList.filterMap fun e => if Region.binds .any e then some e.on else none
def befM : List Oper → List Nat → List Nat
  | [], acc => acc
  | o :: rest, acc => befM rest (acc ++ [(dirs o).foldl (fun m j => m ||| 2 ^ j ||| acc.getD j 0) 0])
def isBef (ops : Array Oper) (j i : Nat) : Bool := ((befM ops.toList []).getD i 0).testBit j

def conf (ops : Array Oper) (i j : Nat) : Bool :=
  match ops[i]?, ops[j]? with
  | some x, some y => !x.apart ops y
  | _, _ => true
def pairsOK (f : Nat → Nat → Bool) : List Nat → Bool
  | [] => true
  | i :: r => r.all (f i) && pairsOK f r
/-- The order π is one of the region's; operations on one slot, the chain's operations, and readers and later chain operations are ordered by the edges. -/
def planOK (ops : Array Oper) (π ch rd : List Nat) : Bool :=
  decide (π.length ≤ ops.size) && (List.range ops.size).all π.contains && π.all (fun i => decide (i < ops.size) && (((ops[i]?).map dirs).getD []).all (fun j => decide (j < ops.size) && j != i)) &&
  pairsOK (fun i j => i != j && (!conf ops i j || isBef ops i j) && (!(ch.contains i && ch.contains j) || isBef ops i j) && (!(rd.contains i && ch.contains j) || isBef ops i j) && !(((ops[i]?).map dirs).getD []).contains j) π

theorem pairsOK_split {f : Nat → Nat → Bool} {pre post : List Nat} {i : Nat} (h : pairsOK f (pre ++ i :: post) = true) : (∀ k ∈ pre, f k i = true) ∧ (∀ j ∈ post, f i j = true) := by
  induction pre with
  | nil =>
    simp only [List.nil_append, pairsOK, Bool.and_eq_true] at h
    exact ⟨by simp, fun j hj => List.all_eq_true.1 h.1 j hj⟩
  | cons k pre ih =>
    simp only [List.cons_append, pairsOK, Bool.and_eq_true] at h
    obtain ⟨h1, h2⟩ := ih h.2
    refine ⟨fun x hx => ?_, h2⟩
    rcases List.mem_cons.1 hx with e | e
    · subst e; exact List.all_eq_true.1 h.1 i (by simp)
    · exact h1 x e

/-- A set of operations that is closed under the edges holds all that is ahead of what it holds. -/
theorem foldl_bits (acc : List Nat) (j : Nat) : ∀ (l : List Nat) (m : Nat), (l.foldl (fun m k => m ||| 2 ^ k ||| acc.getD k 0) m).testBit j = true → m.testBit j = true ∨ ∃ k ∈ l, k = j ∨ (acc.getD k 0).testBit j = true
  | [], m, h => .inl h
  | k :: l, m, h => by
    rcases foldl_bits acc j l _ h with h | ⟨x, hx, hx'⟩
    · simp only [Nat.testBit_or, Bool.or_eq_true] at h
      rcases h with (h | h) | h
      · exact .inl h
      · rw [Nat.testBit_two_pow] at h
        exact .inr ⟨k, by simp, .inl (by simpa using h)⟩
      · exact .inr ⟨k, by simp, .inr h⟩
    · exact .inr ⟨x, by simp [hx], hx'⟩

theorem bef_sound {X : Nat → Prop} : ∀ (l : List Oper) (done : List Oper) (acc : List Nat), acc.length = done.length →
    (∀ i o, done[i]? = some o → (∀ j ∈ dirs o, X j) → ∀ j, (acc.getD i 0).testBit j = true → X j) → (∀ i o, (done ++ l)[i]? = some o → X i → ∀ j ∈ dirs o, X j) →
    ∀ i o, (done ++ l)[i]? = some o → (∀ j ∈ dirs o, X j) → ∀ j, ((befM l acc).getD i 0).testBit j = true → X j
  | [], done, acc, _, h, _, i, o, ho, hd, j, hj => h i o (by simpa using ho) hd j hj
  | x :: l, done, acc, hl, h, hX, i, o, ho, hd, j, hj => by
    refine bef_sound l (done ++ [x]) (acc ++ [(dirs x).foldl (fun m j => m ||| 2 ^ j ||| acc.getD j 0) 0]) (by simp [hl]) ?_ (by simpa using hX) i o (by simpa using ho) hd j hj
    intro i' o' ho' hd' j' hj'
    rcases Nat.lt_or_ge i' done.length with hlt | hge
    · rw [List.getElem?_append_left hlt] at ho'
      rw [List.getD_eq_getElem?_getD, List.getElem?_append_left (by omega), ← List.getD_eq_getElem?_getD] at hj'
      exact h i' o' ho' hd' j' hj'
    · rw [List.getElem?_append_right hge] at ho'
      have e : i' = done.length := by
        rcases Nat.eq_zero_or_pos (i' - done.length) with h0 | h0
        · omega
        · rw [List.getElem?_eq_none (by simp; omega)] at ho'; cases ho'
      subst e
      simp at ho'
      subst ho'
      have e2 : (acc ++ [(dirs x).foldl (fun m j => m ||| 2 ^ j ||| acc.getD j 0) 0]).getD done.length 0 = (dirs x).foldl (fun m j => m ||| 2 ^ j ||| acc.getD j 0) 0 := by
        rw [← hl]; simp [List.getD]
      rw [e2] at hj'
      rcases foldl_bits acc j' _ _ hj' with h0 | ⟨k, hk, hk'⟩
      · simp at h0
      · have hXk := hd' k hk
        rcases hk' with rfl | hk'
        · exact hXk
        · -- k is an earlier operation
          have hkl : k < acc.length := by
            rcases Nat.lt_or_ge k acc.length with h1 | h1
            · exact h1
            · rw [List.getD_eq_getElem?_getD, List.getElem?_eq_none h1] at hk'; simp at hk'
          have hkd : k < done.length := by omega
          have ok := List.getElem?_eq_getElem hkd
          exact h k _ ok (hX k _ (by rw [List.getElem?_append_left hkd]; exact ok) hXk) j' hk'

theorem isBef_sound {ops : Array Oper} {X : Nat → Prop} (hX : ∀ (i : Nat) (o : Oper), ops[i]? = some o → X i → ∀ j ∈ dirs o, X j) {i j : Nat} {o : Oper} (ho : ops[i]? = some o) (hd : ∀ j ∈ dirs o, X j) (h : isBef ops j i = true) : X j :=
  bef_sound ops.toList [] [] rfl (fun i o h => by simp at h) (fun i o h => hX i o (by simpa using h)) i o (by simpa using ho) hd j h

/-- A run of a region's operations in the order of a list: pure ones at any heap, readers at every heap that they may see, the chain's from heap to heap (the newest first). -/
inductive DR (P : Program) (ops : Array Oper) (E : Cx) (ch rd π : List Nat) : List Nat → Env → List Heap → Env → List Heap → Prop
  | nil (L : Env) (hs : List Heap) : DR P ops E ch rd π [] L hs L hs
  | pure {i : Nat} {rest : List Nat} {L Lf : Env} {hs hf : List Heap} {o : Oper} {v : AV} (ho : ops[i]? = some o) (hc : ch.contains i = false) (ht : ∀ h, OT P ops E o (sel L (o.looksAt ops)) v h h) (k : DR P ops E ch rd π rest (bindD o.dst v L) hs Lf hf) : DR P ops E ch rd π (i :: rest) L hs Lf hf
  | read {i : Nat} {rest : List Nat} {L Lf : Env} {hs hf : List Heap} {o : Oper} {v : AV} (ho : ops[i]? = some o) (hc : ch.contains i = false) (hr : rd.contains i = true) (ht : ∀ h ∈ hs.take (hs.length - cnt ch (π.filter fun j => isBef ops j i)), OT P ops E o (sel L (o.looksAt ops)) v h h)
      (k : DR P ops E ch rd π rest (bindD o.dst v L) hs Lf hf) : DR P ops E ch rd π (i :: rest) L hs Lf hf
  | chain {i : Nat} {rest : List Nat} {L Lf : Env} {h h' : Heap} {hs hf : List Heap} {o : Oper} {v : AV} (ho : ops[i]? = some o) (hc : ch.contains i = true) (ht : OT P ops E o (sel L (o.looksAt ops)) v h h') (k : DR P ops E ch rd π rest (bindD o.dst v L) (h' :: h :: hs) Lf hf) :
      DR P ops E ch rd π (i :: rest) L (h :: hs) Lf hf

/-- What is known of one operation of the run. -/
def Known (P : Program) (ops : Array Oper) (E : Cx) (ch rd π : List Nat) (hr : List Heap) (c : Nat) (L : Env) (v : AV) (i : Nat) : Prop :=
  ∃ o, ops[i]? = some o ∧
    ((ch.contains i = true ∧ ∃ h h', hr[c]? = some h ∧ hr[c + 1]? = some h' ∧ OT P ops E o (sel L (o.looksAt ops)) v h h') ∨
     (ch.contains i = false ∧ rd.contains i = true ∧ ∀ c' h, cnt ch (π.filter fun j => isBef ops j i) ≤ c' → c' ≤ c → hr[c']? = some h → OT P ops E o (sel L (o.looksAt ops)) v h h) ∨
     (ch.contains i = false ∧ ∀ h, OT P ops E o (sel L (o.looksAt ops)) v h h))

theorem runEnv_congr {ops : Array Oper} {val val' : Nat → AV} : ∀ {l : List Nat} {L : Env}, (∀ i ∈ l, val i = val' i) → runEnv ops val l L = runEnv ops val' l L
  | [], _, _ => rfl
  | i :: l, L, h => by
    simp only [runEnv]
    rw [h i (by simp)]
    exact runEnv_congr fun j hj => h j (by simp [hj])

theorem DR.spec {P : Program} {ops : Array Oper} {E : Cx} {ch rd π : List Nat} {σ : List Nat} {L Lf : Env} {hs hf : List Heap} (d : DR P ops E ch rd π σ L hs Lf hf) (hnd : pairsOK (fun i j => i != j) σ = true) (hne : hs ≠ []) :
    ∃ val : Nat → AV, Lf = runEnv ops val σ L ∧ (∃ nw, hf = nw ++ hs ∧ nw.length = cnt ch σ) ∧ ∀ pre i post, σ = pre ++ i :: post → Known P ops E ch rd π hf.reverse (hs.length - 1 + cnt ch pre) (runEnv ops val pre L) (val i) i := by
  induction d with
  | nil L hs => exact ⟨fun _ => .dead, rfl, ⟨[], rfl, rfl⟩, fun pre i post e => by simp at e⟩
  | @pure i rest L Lf hs hf o v ho hc ht k ih =>
    simp only [pairsOK, Bool.and_eq_true] at hnd
    obtain ⟨val, h1, ⟨nw, h2, h2'⟩, h3⟩ := ih hnd.2 hne
    have hni : ∀ j ∈ rest, j ≠ i := fun j hj e => by have := List.all_eq_true.1 hnd.1 j hj; subst e; simp at this
    refine ⟨fun j => if j = i then v else val j, ?_, ⟨nw, h2, by rw [h2', cnt_f hc]⟩, fun pre j post e => ?_⟩
    · simp only [runEnv, if_true]
      rw [h1]
      have : gslot ops i = o.dst := by simp [gslot, ho]
      rw [this]
      exact runEnv_congr fun j hj => by rw [if_neg (hni j hj)]
    · cases pre with
      | nil =>
        simp at e
        obtain ⟨rfl, _⟩ := e
        exact ⟨o, ho, .inr (.inr ⟨hc, by simpa [runEnv] using ht⟩)⟩
      | cons x pre =>
        simp at e
        obtain ⟨rfl, e⟩ := e
        have hmem : j ∈ rest := by rw [e]; simp
        have := h3 pre j post e
        have e1 : cnt ch (i :: pre) = cnt ch pre := cnt_f hc
        have e2 : runEnv ops (fun j => if j = i then v else val j) (i :: pre) L = runEnv ops val pre (bindD o.dst v L) := by
          simp only [runEnv, if_true]
          have : gslot ops i = o.dst := by simp [gslot, ho]
          rw [this]
          exact runEnv_congr fun j hj => by rw [if_neg (hni j (by rw [e]; simp [hj]))]
        have e3 : (fun j => if j = i then v else val j) j = val j := if_neg (hni j hmem)
        rw [e1, e2, e3]
        exact this
  | @read i rest L Lf hs hf o v ho hc hrd ht k ih =>
    simp only [pairsOK, Bool.and_eq_true] at hnd
    obtain ⟨val, h1, ⟨nw, h2, h2'⟩, h3⟩ := ih hnd.2 hne
    have hni : ∀ j ∈ rest, j ≠ i := fun j hj e => by have := List.all_eq_true.1 hnd.1 j hj; subst e; simp at this
    refine ⟨fun j => if j = i then v else val j, ?_, ⟨nw, h2, by rw [h2', cnt_f hc]⟩, fun pre j post e => ?_⟩
    · simp only [runEnv, if_true]
      rw [h1]
      have : gslot ops i = o.dst := by simp [gslot, ho]
      rw [this]
      exact runEnv_congr fun j hj => by rw [if_neg (hni j hj)]
    · cases pre with
      | nil =>
        simp at e
        obtain ⟨rfl, _⟩ := e
        refine ⟨o, ho, .inr (.inl ⟨hc, hrd, fun c' h hlo hhi hget => ?_⟩)⟩
        simp only [runEnv, if_true]
        refine ht h ?_
        simp [cnt] at hhi
        rw [h2, List.reverse_append] at hget
        have hp : 0 < hs.length := List.length_pos_iff.2 hne
        rw [List.getElem?_append_left (by simp; omega), List.getElem?_reverse (by omega)] at hget
        rw [List.mem_take_iff_getElem]
        obtain ⟨hlt, e⟩ := List.getElem?_eq_some_iff.1 hget
        exact ⟨hs.length - 1 - c', by omega, e⟩
      | cons x pre =>
        simp at e
        obtain ⟨rfl, e⟩ := e
        have hmem : j ∈ rest := by rw [e]; simp
        have := h3 pre j post e
        have e1 : cnt ch (i :: pre) = cnt ch pre := cnt_f hc
        have e2 : runEnv ops (fun j => if j = i then v else val j) (i :: pre) L = runEnv ops val pre (bindD o.dst v L) := by
          simp only [runEnv, if_true]
          have : gslot ops i = o.dst := by simp [gslot, ho]
          rw [this]
          exact runEnv_congr fun j hj => by rw [if_neg (hni j (by rw [e]; simp [hj]))]
        have e3 : (fun j => if j = i then v else val j) j = val j := if_neg (hni j hmem)
        rw [e1, e2, e3]
        exact this
  | @chain i rest L Lf h h' hs hf o v ho hc ht k ih =>
    simp only [pairsOK, Bool.and_eq_true] at hnd
    obtain ⟨val, h1, ⟨nw, h2, h2'⟩, h3⟩ := ih hnd.2 (by simp)
    have hni : ∀ j ∈ rest, j ≠ i := fun j hj e => by have := List.all_eq_true.1 hnd.1 j hj; subst e; simp at this
    refine ⟨fun j => if j = i then v else val j, ?_, ⟨nw ++ [h'], by rw [h2]; simp, by rw [cnt_t hc]; simp [h2']⟩, fun pre j post e => ?_⟩
    · simp only [runEnv, if_true]
      rw [h1]
      have : gslot ops i = o.dst := by simp [gslot, ho]
      rw [this]
      exact runEnv_congr fun j hj => by rw [if_neg (hni j hj)]
    · cases pre with
      | nil =>
        simp at e
        obtain ⟨rfl, _⟩ := e
        refine ⟨o, ho, .inl ⟨hc, h, h', ?_, ?_, by simpa [runEnv] using ht⟩⟩
        · rw [h2]; simp [cnt]
        · rw [h2]; simp [cnt]
      | cons x pre =>
        simp at e
        obtain ⟨rfl, e⟩ := e
        have hmem : j ∈ rest := by rw [e]; simp
        have := h3 pre j post e
        have e1 : (h :: hs).length - 1 + cnt ch (i :: pre) = (h' :: h :: hs).length - 1 + cnt ch pre := by rw [cnt_t hc]; simp; omega
        have e2 : runEnv ops (fun j => if j = i then v else val j) (i :: pre) L = runEnv ops val pre (bindD o.dst v L) := by
          simp only [runEnv, if_true]
          have : gslot ops i = o.dst := by simp [gslot, ho]
          rw [this]
          exact runEnv_congr fun j hj => by rw [if_neg (hni j (by rw [e]; simp [hj]))]
        have e3 : (fun j => if j = i then v else val j) j = val j := if_neg (hni j hmem)
        rw [e1, e2, e3]
        exact this

/-- A slot's value depends on its writers alone. -/
def writes (ops : Array Oper) (t : Nat) (i : Nat) : Bool := gslot ops i == some t
theorem runEnv_lookup (ops : Array Oper) (val : Nat → AV) (t : Nat) : ∀ (l : List Nat) (L L' : Env), L.lookup t = L'.lookup t → (runEnv ops val l L).lookup t = (runEnv ops val (l.filter (writes ops t)) L').lookup t
  | [], L, L', h => h
  | i :: l, L, L', h => by
    simp only [runEnv, List.filter_cons]
    cases hg : gslot ops i with
    | none =>
      have : writes ops t i = false := by simp [writes, hg]
      rw [this]
      exact runEnv_lookup ops val t l _ L' h
    | some d =>
      by_cases e : d = t
      · subst e
        have : writes ops d i = true := by simp [writes, hg]
        rw [this]
        simp only [if_true, runEnv, hg]
        exact runEnv_lookup ops val d l _ _ (by simp [bindD])
      · have : writes ops t i = false := by simp [writes, hg, e]
        rw [this]
        refine runEnv_lookup ops val t l _ L' ?_
        simp only [bindD, List.lookup_cons]
        have e' : (t == d) = false := by simpa using fun x => e x.symm
        rw [e']; exact h
theorem runEnv_same {ops : Array Oper} {val : Nat → AV} {t : Nat} {l l' : List Nat} {L : Env} (h : l.filter (writes ops t) = l'.filter (writes ops t)) : (runEnv ops val l L).lookup t = (runEnv ops val l' L).lookup t := by
  rw [runEnv_lookup ops val t l L L rfl, runEnv_lookup ops val t l' L L rfl, h]
theorem runEnv_app (ops : Array Oper) (val : Nat → AV) : ∀ (a b : List Nat) (L : Env), runEnv ops val (a ++ b) L = runEnv ops val b (runEnv ops val a L)
  | [], _, _ => rfl
  | _ :: a, b, _ => runEnv_app ops val a b _

theorem apart_conf {ops : Array Oper} {i j : Nat} {x y : Oper} (hx : ops[i]? = some x) (hy : ops[j]? = some y) (h : conf ops i j = false) : (∀ d, x.dst = some d → d ∉ y.looksAt ops ∧ y.dst ≠ some d) ∧ (∀ d, y.dst = some d → d ∉ x.looksAt ops) := by
  simp only [conf, hx, hy, Bool.not_eq_false'] at h
  obtain ⟨h1, h2, h3⟩ := Oper.apart_spec h
  exact ⟨fun d hd => ⟨h1 d hd, h2 d hd⟩, h3⟩

theorem filter_none {α : Type} {p q : α → Bool} {l : List α} (h : ∀ x ∈ l, p x = true → q x = false) : (l.filter p).filter q = [] := by
  rw [List.filter_eq_nil_iff]
  intro x hx
  obtain ⟨h1, h2⟩ := List.mem_filter.1 hx
  simp [h x h1 h2]

theorem cnt_mono {ch l : List Nat} {p q : Nat → Bool} (h : ∀ x ∈ l, p x = true → q x = true) : cnt ch (l.filter p) ≤ cnt ch (l.filter q) := by
  unfold cnt
  rw [List.countP_filter, List.countP_filter]
  exact List.countP_mono_left fun x hx hh => by
    simp only [Bool.and_eq_true] at hh ⊢
    exact ⟨hh.1, h x hx hh.2⟩
theorem cnt_zero {ch l : List Nat} {p : Nat → Bool} (h : ∀ x ∈ l, p x = true → ch.contains x = false) : cnt ch (l.filter p) = 0 := by
  unfold cnt
  rw [List.countP_eq_zero]
  intro x hx
  obtain ⟨h1, h2⟩ := List.mem_filter.1 hx
  simp only [h x h1 h2]
  decide
theorem cnt_all {ch l : List Nat} {p : Nat → Bool} (h : ∀ x ∈ l, ch.contains x = true → p x = true) : cnt ch (l.filter p) = cnt ch l := by
  unfold cnt
  rw [List.countP_filter]
  apply List.countP_congr
  intro x hx
  constructor
  · intro hh; simp only [Bool.and_eq_true] at hh; exact hh.1
  · intro hh; simp only [Bool.and_eq_true]; exact ⟨hh, h x hx hh⟩

structure Plan (ops : Array Oper) (π ch rd : List Nat) : Prop where
  len : π.length ≤ ops.size
  all : ∀ i, i < ops.size → i ∈ π
  lt : ∀ i ∈ π, i < ops.size
  edge : ∀ i ∈ π, ∀ (o : Oper), ops[i]? = some o → ∀ j ∈ dirs o, j < ops.size ∧ j ≠ i
  nd : pairsOK (fun i j => i != j) π = true
  pair : ∀ pre i post, π = pre ++ i :: post → ∀ j ∈ post, i ≠ j ∧ (conf ops i j = true → isBef ops i j = true) ∧ (ch.contains i = true → ch.contains j = true → isBef ops i j = true) ∧ (rd.contains i = true → ch.contains j = true → isBef ops i j = true) ∧ ∀ (o : Oper), ops[i]? = some o → j ∉ dirs o
theorem planOK_plan {ops : Array Oper} {π ch rd : List Nat} (hp : planOK ops π ch rd = true) : Plan ops π ch rd := by
  simp only [planOK, Bool.and_eq_true] at hp
  obtain ⟨⟨⟨hlen, hall⟩, hlt⟩, hpairs⟩ := hp
  refine ⟨by simpa using hlen, fun i hi => ?_, fun i hi => ?_, fun i hi o ho j hj => ?_, ?_, fun pre i post e j hj => ?_⟩
  · have := List.all_eq_true.1 hall i (by simpa using hi)
    simpa using this
  · have := List.all_eq_true.1 hlt i hi
    simp only [Bool.and_eq_true, decide_eq_true_eq] at this
    exact this.1
  · have := List.all_eq_true.1 hlt i hi
    simp only [Bool.and_eq_true, decide_eq_true_eq, ho, Option.map_some, Option.getD_some] at this
    have := List.all_eq_true.1 this.2 j hj
    simp only [Bool.and_eq_true, decide_eq_true_eq, bne_iff_ne] at this
    exact this
  · clear hall hlt hlen
    induction π with
    | nil => rfl
    | cons x l ih =>
      simp only [pairsOK, Bool.and_eq_true] at hpairs ⊢
      refine ⟨List.all_eq_true.2 fun j hj => ?_, ih hpairs.2⟩
      have := List.all_eq_true.1 hpairs.1 j hj
      simp only [Bool.and_eq_true] at this
      exact this.1.1.1.1
  · rw [e] at hpairs
    have := (pairsOK_split hpairs).2 j hj
    simp only [Bool.and_eq_true, Bool.or_eq_true, Bool.not_eq_true', bne_iff_ne, ne_eq] at this
    obtain ⟨⟨⟨⟨h1, h2⟩, h3⟩, h4⟩, h5⟩ := this
    refine ⟨h1, fun hc => h2.resolve_left (by rw [hc]; decide), fun a b => h3.resolve_left (by rw [a, b]; decide), fun a b => h4.resolve_left (by rw [a, b]; decide), fun o ho hm => ?_⟩
    rw [ho] at h5
    simp at h5
    exact h5 hm

theorem aw_draw {P : Program} {E : Cx} {Q : Exit → Env → Heap → Prop} {L Lf : Env} {h hl : Heap} {hs : List Heap} {id : Nat} {ops : Array Oper} (hm : P.follows .mixedOrders = true) (π ch rd : List Nat) (hp : planOK ops π ch rd = true)
    (d : DR P ops E ch rd π π L [h] Lf (hl :: hs)) (hq : Q .normal Lf hl) : aw P (.region id ops true) E Q L h := by
  refine ⟨fun ι I a w r => ?_⟩
  have pl := planOK_plan hp
  obtain ⟨val, hLf, ⟨nw, hnw, hnwl⟩, hkn⟩ := d.spec pl.nd (by simp)
  have hrev : (hl :: hs).length = cnt ch π + 1 := by rw [hnw]; simp [hnwl]
  have hlast : (hl :: hs).reverse[cnt ch π]? = some hl := by
    rw [List.getElem?_reverse (by omega)]
    have : (hl :: hs).length - 1 - cnt ch π = 0 := by omega
    rw [this]; rfl
  have hfirst : (hl :: hs).reverse[0]? = some h := by rw [hnw]; simp
  have hHlen : (hl :: hs).reverse.length = cnt ch π + 1 := by rw [List.length_reverse]; exact hrev
  obtain ⟨H, hH⟩ : ∃ H, H = (hl :: hs).reverse := ⟨_, rfl⟩
  rw [← hH] at hkn hlast hfirst hHlen
  simp only [List.length_singleton, Nat.sub_self, Nat.zero_add] at hkn
  refine wp_region_any hm ?_
  have getF : ∀ (listed : Array Bool) (i : Nat), listed.size = ops.size → i < ops.size → listed.getD i true = listed.getD i false := fun listed i hsz hi => by
    simp [Array.getD, hsz, hi]
  have readyI : ∀ (listed : Array Bool) (i : Nat), listed.size = ops.size → i ∈ Region.ready .any ops listed → i < ops.size ∧ listed.getD i false = false ∧ ∀ (o : Oper), ops[i]? = some o → ∀ j ∈ dirs o, listed.getD j false = true := fun listed i hsz hi => by
    unfold Region.ready at hi
    obtain ⟨h1, h2⟩ := List.mem_filter.1 hi
    have h1 := List.mem_range.1 h1
    simp only [Bool.and_eq_true, Bool.not_eq_true'] at h2
    refine ⟨h1, by rw [← getF listed i hsz h1]; exact h2.1, fun o ho j hj => ?_⟩
    rw [ho] at h2
    simp only [Option.map_some, Option.getD_some] at h2
    unfold dirs at hj
    obtain ⟨ed, hed, hif⟩ := List.mem_filterMap.1 hj
    split at hif
    · rename_i hb
      cases hif
      have := Array.all_eq_true'.1 h2.2 ed (by simpa using hed)
      simpa [hb] using this
    · cases hif
  have readyE : ∀ (listed : Array Bool) (i : Nat) (o : Oper), listed.size = ops.size → ops[i]? = some o → listed.getD i false = false → (∀ j ∈ dirs o, listed.getD j false = true) → i ∈ Region.ready .any ops listed := fun listed i o hsz ho hli hd => by
    have hlt := (Array.getElem?_eq_some_iff.1 ho).1
    unfold Region.ready
    refine List.mem_filter.2 ⟨List.mem_range.2 hlt, ?_⟩
    rw [getF listed i hsz hlt, hli, ho]
    simp only [Bool.not_false, Bool.true_and, Option.map_some, Option.getD_some]
    rw [Array.all_eq_true']
    intro ed hed
    cases hb : Region.binds .any ed with
    | false => simp
    | true =>
      simp only [Bool.not_true, Bool.false_or]
      exact hd ed.on (by unfold dirs; exact List.mem_filterMap.2 ⟨ed, by simpa using hed, by simp [hb]⟩)
  have fin : ∀ (listed : Array Bool) (a : Act) (w : World) (ι : List Inf) (I : Nat → Prop) (hc : Heap), listed.size = ops.size →
      H[cnt ch (π.filter fun i => listed.getD i false)]? = some hc → Rel E (runEnv ops val (π.filter fun i => listed.getD i false) L) hc ι I a w → Region.ready .any ops listed = [] → lift E Q .normal a w := by
    intro listed a w ι I hc hsz hcH r hready
    have hallX : ∀ (n : Nat) (pre post : List Nat), pre.length = n → π = pre ++ post → ∀ i ∈ pre, listed.getD i false = true := by
      intro n
      induction n with
      | zero => intro pre post hl0 _ i hi; rw [List.eq_nil_of_length_eq_zero hl0] at hi; simp at hi
      | succ n ih =>
        intro pre' post hl0 e i hi
        obtain ⟨pre, x, rfl⟩ : ∃ pre x, pre' = pre ++ [x] := by
          rcases List.eq_nil_or_concat pre' with h0 | ⟨l, x, h0⟩
          · subst h0; simp at hl0
          · exact ⟨l, x, by simpa using h0⟩
        have e' : π = pre ++ x :: post := by rw [e]; simp
        have hpre := ih pre (x :: post) (by simpa using hl0) e'
        rcases List.mem_append.1 hi with hi | hi
        · exact hpre i hi
        · simp at hi
          subst hi
          have hmem : i ∈ π := by rw [e']; simp
          have hxlt := pl.lt i hmem
          cases hli : listed.getD i false with
          | true => rfl
          | false =>
            exfalso
            have ho := Array.getElem?_eq_getElem hxlt
            have : i ∈ Region.ready .any ops listed := readyE listed i _ hsz ho hli fun j hj => by
              obtain ⟨j1, j2⟩ := pl.edge i hmem _ ho j hj
              have hjm := pl.all j j1
              rw [e'] at hjm
              rcases List.mem_append.1 hjm with hjm | hjm
              · exact hpre j hjm
              · rcases List.mem_cons.1 hjm with hjm | hjm
                · exact absurd hjm j2
                · exact absurd hj ((pl.pair pre i post e' j hjm).2.2.2.2 _ ho)
            rw [hready] at this
            cases this
    have e : π.filter (fun i => listed.getD i false) = π := List.filter_eq_self.2 (hallX π.length π [] rfl (by simp))
    rw [e] at hcH r
    rw [hlast] at hcH
    cases hcH
    exact ⟨Lf, hl, ι, I, hq, by rw [hLf]; exact r⟩
  have key : ∀ (fuel : Nat) (listed : Array Bool) (a : Act) (w : World) (ι : List Inf) (I : Nat → Prop) (hc : Heap), listed.size = ops.size →
      (∀ (i : Nat) (o : Oper), ops[i]? = some o → listed.getD i false = true → ∀ j ∈ dirs o, listed.getD j false = true) →
      H[cnt ch (π.filter fun i => listed.getD i false)]? = some hc →
      (π.filter fun i => !listed.getD i false).length ≤ fuel →
      Rel E (runEnv ops val (π.filter fun i => listed.getD i false) L) hc ι I a w → wpAny P .any ops (lift E Q) fuel listed a w := by
    intro fuel
    induction fuel with
    | zero =>
      intro listed a w ι I hc hsz hcl hcH hfu r
      have hnil : Region.ready .any ops listed = [] := by
        cases hr : Region.ready .any ops listed with
        | nil => rfl
        | cons i l =>
          exfalso
          obtain ⟨h1, h2, _⟩ := readyI listed i hsz (by rw [hr]; simp)
          have : i ∈ π.filter fun i => !listed.getD i false := List.mem_filter.2 ⟨pl.all i h1, by rw [h2]; rfl⟩
          have := List.length_pos_of_mem this
          omega
      exact ⟨hnil, fin listed a w ι I hc hsz hcH r hnil⟩
    | succ fuel ih =>
      intro listed a w ι I hc hsz hcl hcH hfu r
      refine ⟨fin listed a w ι I hc hsz hcH r, fun i hi => ?_⟩
      obtain ⟨hlt, hli, hdirs⟩ := readyI listed i hsz hi
      have ho := Array.getElem?_eq_getElem hlt
      have hmem := pl.all i hlt
      obtain ⟨pre, post, e⟩ := List.append_of_mem hmem
      have befX : ∀ {j}, isBef ops j i = true → listed.getD j false = true := fun hb => isBef_sound (X := fun j => listed.getD j false = true) hcl ho (hdirs _ ho) hb
      have noB : ∀ {j}, listed.getD j false = true → isBef ops i j = true → False := fun {j} hj hb => by
        rcases Nat.lt_or_ge j ops.size with hjl | hjl
        · have hoj := Array.getElem?_eq_getElem hjl
          have := isBef_sound (X := fun j => listed.getD j false = true) hcl hoj (hcl j _ hoj hj) hb
          rw [hli] at this; cases this
        · rw [Array.getD_eq_getD_getElem?, Array.getElem?_eq_none (by omega)] at hj; cases hj
      have pre_i : ∀ k ∈ pre, k ≠ i ∧ (conf ops k i = true → isBef ops k i = true) ∧ (ch.contains k = true → ch.contains i = true → isBef ops k i = true) := fun k hk => by
        obtain ⟨p1, p2, e2⟩ := List.append_of_mem hk
        have := pl.pair p1 k (p2 ++ i :: post) (by rw [e, e2]; simp) i (by simp)
        exact ⟨this.1, this.2.1, this.2.2.1⟩
      have post_i := pl.pair pre i post e
      -- the filters
      have fX : π.filter (fun i => listed.getD i false) = pre.filter (fun i => listed.getD i false) ++ post.filter (fun i => listed.getD i false) := by
        rw [e, List.filter_append, List.filter_cons, hli]; simp
      have getS : ∀ j, (listed.setIfInBounds i true).getD j false = if j = i then true else listed.getD j false := fun j => by
        rw [Array.getD_eq_getD_getElem?, Array.getD_eq_getD_getElem?]
        by_cases ej : j = i
        · subst ej; simp [hsz, hlt]
        · rw [Array.getElem?_setIfInBounds_ne (fun x => ej x.symm), if_neg ej]
      have fX' : π.filter (fun j => (listed.setIfInBounds i true).getD j false) = pre.filter (fun i => listed.getD i false) ++ i :: post.filter (fun i => listed.getD i false) := by
        rw [e, List.filter_append, List.filter_cons]
        have a1 : pre.filter (fun j => (listed.setIfInBounds i true).getD j false) = pre.filter (fun i => listed.getD i false) := List.filter_congr fun k hk => by rw [getS, if_neg (pre_i k hk).1]
        have a2 : post.filter (fun j => (listed.setIfInBounds i true).getD j false) = post.filter (fun i => listed.getD i false) := List.filter_congr fun k hk => by rw [getS, if_neg (fun x => (post_i k hk).1 x.symm)]
        rw [a1, a2, getS, if_pos rfl]
        simp
      have cX : cnt ch (π.filter fun i => listed.getD i false) = cnt ch (pre.filter fun i => listed.getD i false) + cnt ch (post.filter fun i => listed.getD i false) := by rw [fX, cnt_app]
      obtain ⟨o, ho', hk⟩ := hkn pre i post e
      have eo : o = ops[i] := by rw [ho] at ho'; cases ho'; rfl
      -- the operation sees what it saw
      have hsel : Sub (sel (runEnv ops val pre L) (o.looksAt ops)) (runEnv ops val (π.filter fun i => listed.getD i false) L) := sel_sub fun t ht => by
        refine runEnv_same ?_
        rw [fX, List.filter_append]
        have b1 : (post.filter fun i => listed.getD i false).filter (writes ops t) = [] := filter_none fun j hj hXj => by
          cases hw : writes ops t j with
          | false => rfl
          | true =>
            exfalso
            have hjl := pl.lt j (by rw [e]; simp [hj])
            have hoj := Array.getElem?_eq_getElem hjl
            have hdj : ops[j].dst = some t := by simpa [writes, gslot, hoj] using hw
            cases hcf : conf ops i j with
            | true => exact noB hXj ((post_i j hj).2.1 hcf)
            | false => exact (apart_conf ho' hoj hcf).2 t hdj ht
        have b2 : (pre.filter fun i => listed.getD i false).filter (writes ops t) = pre.filter (writes ops t) := by
          rw [List.filter_filter]
          refine List.filter_congr fun k hk => ?_
          cases hw : writes ops t k with
          | false => simp
          | true =>
            simp only [Bool.true_and]
            have hkl := pl.lt k (by rw [e]; simp [hk])
            have hok := Array.getElem?_eq_getElem hkl
            have hdk : ops[k].dst = some t := by simpa [writes, gslot, hok] using hw
            cases hcf : conf ops k i with
            | true => exact befX ((pre_i k hk).2.1 hcf)
            | false => exact absurd ht ((apart_conf hok ho' hcf).1 t hdk).1
        rw [b1, b2, List.append_nil]
      -- what stands behind it
      have hsub : Sub (runEnv ops val (π.filter fun j => (listed.setIfInBounds i true).getD j false) L) (bindD o.dst (val i) (runEnv ops val (π.filter fun i => listed.getD i false) L)) := fun t x hx => by
        rw [fX'] at hx
        have hgs : gslot ops i = o.dst := by simp [gslot, ho']
        by_cases hd : o.dst = some t
        · rw [hd]
          simp only [bindD, List.lookup_cons, beq_self_eq_true]
          rw [runEnv_app] at hx
          simp only [runEnv] at hx
          rw [hgs, hd] at hx
          have b1 : (post.filter fun i => listed.getD i false).filter (writes ops t) = [] := filter_none fun j hj hXj => by
            cases hw : writes ops t j with
            | false => rfl
            | true =>
              exfalso
              have hjl := pl.lt j (by rw [e]; simp [hj])
              have hoj := Array.getElem?_eq_getElem hjl
              have hdj : ops[j].dst = some t := by simpa [writes, gslot, hoj] using hw
              cases hcf : conf ops i j with
              | true => exact noB hXj ((post_i j hj).2.1 hcf)
              | false => exact ((apart_conf ho' hoj hcf).1 t hd).2 hdj
          rw [runEnv_lookup ops val t _ _ _ rfl, b1] at hx
          simpa [runEnv, bindD] using hx
        · have hw : writes ops t i = false := by simp [writes, hgs, hd]
          have e1 : (runEnv ops val (pre.filter (fun i => listed.getD i false) ++ i :: post.filter (fun i => listed.getD i false)) L).lookup t = (runEnv ops val (π.filter fun i => listed.getD i false) L).lookup t := by
            refine runEnv_same ?_
            rw [fX, List.filter_append, List.filter_append, List.filter_cons, hw]
            simp
          rw [e1] at hx
          cases hdd : o.dst with
          | none => exact hx
          | some d =>
            simp only [bindD, List.lookup_cons]
            have : (t == d) = false := by simpa using fun x => hd (by rw [hdd, x])
            rw [this]; exact hx
      have next : ∀ hc', H[cnt ch (π.filter fun j => (listed.setIfInBounds i true).getD j false)]? = some hc' → OT P ops E o (sel (runEnv ops val pre L) (o.looksAt ops)) (val i) hc hc' → wpOp P ops (lift E Q) i (wpAny P .any ops (lift E Q) fuel (listed.setIfInBounds i true)) a w := by
        intro hc' hcH' hot
        refine hot.sound hsel ho' r fun ι' I' a' w' r' => ?_
        refine ih _ a' w' ι' I' hc' (by simp [hsz]) (fun j oj hoj hj k hkd => ?_) hcH' ?_ (r'.weaken hsub)
        · rw [getS] at hj ⊢
          by_cases ek : k = i
          · rw [if_pos ek]
          · rw [if_neg ek]
            by_cases ej : j = i
            · subst ej
              exact hdirs oj hoj k hkd
            · rw [if_neg ej] at hj
              exact hcl j oj hoj hj k hkd
        · have hsplit : (π.filter fun j => !(listed.setIfInBounds i true).getD j false).length + 1 = (π.filter fun j => !listed.getD j false).length := by
            rw [e, List.filter_append, List.filter_append, List.filter_cons, List.filter_cons, hli, getS, if_pos rfl]
            have a1 : pre.filter (fun j => !(listed.setIfInBounds i true).getD j false) = pre.filter (fun i => !listed.getD i false) := List.filter_congr fun k hk => by rw [getS, if_neg (pre_i k hk).1]
            have a2 : post.filter (fun j => !(listed.setIfInBounds i true).getD j false) = post.filter (fun i => !listed.getD i false) := List.filter_congr fun k hk => by rw [getS, if_neg (fun x => (post_i k hk).1 x.symm)]
            rw [a1, a2]
            simp
            omega
          omega
      rcases hk with ⟨hch, h1, h2, g1, g2, hot⟩ | ⟨hch, hrd, hot⟩ | ⟨hch, hot⟩
      · -- a chain operation
        have c1 : cnt ch (pre.filter fun i => listed.getD i false) = cnt ch pre := cnt_all fun k hk hkc => befX ((pre_i k hk).2.2 hkc hch)
        have c2 : cnt ch (post.filter fun i => listed.getD i false) = 0 := cnt_zero fun j hj hXj => by
          cases hcj : ch.contains j with
          | false => rfl
          | true => exact (noB hXj ((post_i j hj).2.2.1 hch hcj)).elim
        have ehc : h1 = hc := by rw [cX, c1, c2, Nat.add_zero, g1] at hcH; cases hcH; rfl
        subst ehc
        refine next h2 ?_ hot
        rw [fX', cnt_app, cnt_t hch, c1, c2]
        exact g2
      · -- a reader
        have c2 : cnt ch (post.filter fun i => listed.getD i false) = 0 := cnt_zero fun j hj hXj => by
          cases hcj : ch.contains j with
          | false => rfl
          | true => exact (noB hXj ((post_i j hj).2.2.2.1 hrd hcj)).elim
        have c1 : cnt ch (pre.filter fun i => listed.getD i false) ≤ cnt ch pre := by
          have := cnt_mono (ch := ch) (l := pre) (p := fun i => listed.getD i false) (q := fun _ => true) (fun _ _ _ => rfl)
          rwa [List.filter_eq_self.2 (fun _ _ => rfl)] at this
        have c0 : cnt ch (π.filter fun j => isBef ops j i) ≤ cnt ch (π.filter fun i => listed.getD i false) := cnt_mono fun j _ hb => befX hb
        refine next hc ?_ (hot _ hc c0 (by rw [cX, c2]; omega) hcH)
        rw [fX', cnt_app, cnt_f hch, ← cX]
        exact hcH
      · refine next hc ?_ (hot hc)
        rw [fX', cnt_app, cnt_f hch, ← cX]
        exact hcH
  have e0 : π.filter (fun i => (Array.replicate ops.size false).getD i false) = [] := by
    rw [List.filter_eq_nil_iff]
    intro i hi
    simp [Array.getD, pl.lt i hi]
  refine key ops.size (Array.replicate ops.size false) a _ ι I h (by simp) (fun i o ho hi => ?_) (by rw [e0]; exact hfirst) ?_ (by rw [e0]; exact r.same rfl rfl rfl rfl)
  · have := (Array.getElem?_eq_some_iff.1 ho).1
    simp [Array.getD, this] at hi
  · exact Nat.le_trans (List.length_filter_le _ _) pl.len

/-- The steps of a region that leaves the own objects as they are. -/
structure dq (P : Program) (ops : Array Oper) (E : Cx) (π σ : List Nat) (L : Env) (h : Heap) (K : Env → Heap → Prop) : Prop where
  get : ∃ Lf, DR P ops E [] π π σ L [h] Lf [h] ∧ K Lf h
/-- The steps of any region: hs are the heaps so far, the newest first. -/
structure dw (P : Program) (ops : Array Oper) (E : Cx) (ch rd π σ : List Nat) (L : Env) (hs : List Heap) (K : Env → Heap → Prop) : Prop where
  get : ∃ Lf hl hs', DR P ops E ch rd π σ L hs Lf (hl :: hs') ∧ K Lf hl

section
variable {P : Program} {E : Cx} {Q : Exit → Env → Heap → Prop} {K : Env → Heap → Prop} {L : Env} {h : Heap} {hs : List Heap} {ops : Array Oper} {π σ ch rd : List Nat} {i : Nat} {o : Oper} {v : AV}

theorem aw_quiet {id : Nat} (hm : P.follows .mixedOrders = true) (π : List Nat) (hp : planOK ops π [] π = true) (d : dq P ops E π π L h (Q .normal)) : aw P (.region id ops true) E Q L h := by
  obtain ⟨Lf, d, k⟩ := d.get
  exact aw_draw hm π [] π hp d k
theorem aw_drawn {id : Nat} (hm : P.follows .mixedOrders = true) (π ch rd : List Nat) (hp : planOK ops π ch rd = true) (d : dw P ops E ch rd π π L [h] (Q .normal)) : aw P (.region id ops true) E Q L h := by
  obtain ⟨Lf, hl, hs', d, k⟩ := d.get
  exact aw_draw hm π ch rd hp d k

theorem dq_nil (k : K L h) : dq P ops E π [] L h K := ⟨L, .nil _ _, k⟩
theorem dq_ot (ho : ops[i]? = some o) (hi : π.contains i = true) (ht : OT P ops E o (sel L (o.looksAt ops)) v h h) (k : dq P ops E π σ (bindD o.dst v L) h K) : dq P ops E π (i :: σ) L h K := by
  obtain ⟨Lf, d, k⟩ := k.get
  refine ⟨Lf, .read ho rfl hi (fun h' hh' => ?_) d, k⟩
  have := List.mem_of_mem_take hh'
  simp at this
  subst this
  exact ht
theorem dq_run (ho : ops[i]? = some o) (hi : π.contains i = true) (hg : o.guard = none) (hr : ar P o E (fun L2 h2 => L2 = bindD o.dst v (sel L (o.looksAt ops)) ∧ h2 = h) (sel L (o.looksAt ops)) h) (k : dq P ops E π σ (bindD o.dst v L) h K) : dq P ops E π (i :: σ) L h K :=
  dq_ot ho hi (.run hg hr) k
theorem dq_runG {j d : Nat} {p want : Bool} (ho : ops[i]? = some o) (hi : π.contains i = true) (hg : o.guard = some (j, want)) (hj : gslot ops j = some d) (hd : (sel L (o.looksAt ops)).lookup d = some (.one (.lit (.bool p)))) (hp : p = want)
    (hr : ar P o E (fun L2 h2 => L2 = bindD o.dst v (sel L (o.looksAt ops)) ∧ h2 = h) (sel L (o.looksAt ops)) h) (k : dq P ops E π σ (bindD o.dst v L) h K) : dq P ops E π (i :: σ) L h K :=
  dq_ot ho hi (.runG hg hj hd hp hr) k
theorem dq_skip {j d d' : Nat} {p want : Bool} (ho : ops[i]? = some o) (hi : π.contains i = true) (hg : o.guard = some (j, want)) (hj : gslot ops j = some d) (hd : (sel L (o.looksAt ops)).lookup d = some (.one (.lit (.bool p)))) (hp : p = !want) (hdst : o.dst = some d') (hn : d' < E.n)
    (k : dq P ops E π σ ((d', .tup []) :: L) h K) : dq P ops E π (i :: σ) L h K :=
  dq_ot ho hi (.skip hg hj hd hp hdst hn rfl rfl) (by rw [hdst]; exact k)
theorem dq_skipU {j d d' : Nat} {want : Bool} (ho : ops[i]? = some o) (hi : π.contains i = true) (hg : o.guard = some (j, want)) (hj : gslot ops j = some d) (hd : (sel L (o.looksAt ops)).lookup d = some (.tup [])) (hdst : o.dst = some d') (hn : d' < E.n)
    (k : dq P ops E π σ ((d', .tup []) :: L) h K) : dq P ops E π (i :: σ) L h K :=
  dq_ot ho hi (.skipU hg hj hd hdst hn rfl rfl) (by rw [hdst]; exact k)
theorem dq_cases (p want : Bool) (h1 : p = want → dq P ops E π σ L h K) (h2 : (p = !want) → dq P ops E π σ L h K) : dq P ops E π σ L h K := by
  by_cases hp : p = want
  · exact h1 hp
  · exact h2 (by cases p <;> cases want <;> simp_all)
theorem dq_guard {j d : Nat} {p want : Bool} (_ho : ops[i]? = some o) (_hg : o.guard = some (j, want)) (_hj : gslot ops j = some d) (_hd : (sel L (o.looksAt ops)).lookup d = some (.one (.lit (.bool p)))) (h1 : p = want → dq P ops E π (i :: σ) L h K) (h2 : (p = !want) → dq P ops E π (i :: σ) L h K) : dq P ops E π (i :: σ) L h K :=
  dq_cases p want h1 h2

theorem dw_nil (k : K L h) : dw P ops E ch rd π [] L (h :: hs) K := ⟨L, h, hs, .nil _ _, k⟩
/-- An operation that looks at no own object. -/
theorem dw_pure (ho : ops[i]? = some o) (hc : ch.contains i = false) (hg : o.guard = none) (hr : ∀ h, ar P o E (fun L2 h2 => L2 = bindD o.dst v (sel L (o.looksAt ops)) ∧ h2 = h) (sel L (o.looksAt ops)) h) (k : dw P ops E ch rd π σ (bindD o.dst v L) hs K) : dw P ops E ch rd π (i :: σ) L hs K := by
  obtain ⟨Lf, hl, hs', d, k⟩ := k.get
  exact ⟨Lf, hl, hs', .pure ho hc (fun h => .run hg (hr h)) d, k⟩
/-- An operation that looks at own objects, at each heap that it may see. -/
theorem dw_read (ho : ops[i]? = some o) (hc : ch.contains i = false) (hrd : rd.contains i = true) (hg : o.guard = none)
    (hr : ∀ h ∈ hs.take (hs.length - cnt ch (π.filter fun j => isBef ops j i)), ar P o E (fun L2 h2 => L2 = bindD o.dst v (sel L (o.looksAt ops)) ∧ h2 = h) (sel L (o.looksAt ops)) h) (k : dw P ops E ch rd π σ (bindD o.dst v L) hs K) : dw P ops E ch rd π (i :: σ) L hs K := by
  obtain ⟨Lf, hl, hs', d, k⟩ := k.get
  exact ⟨Lf, hl, hs', .read ho hc hrd (fun h hh => .run hg (hr h hh)) d, k⟩
/-- An operation that changes own objects, or makes some. -/
theorem dw_chain {h' : Heap} (ho : ops[i]? = some o) (hc : ch.contains i = true) (hg : o.guard = none) (hr : ar P o E (fun L2 h2 => L2 = bindD o.dst v (sel L (o.looksAt ops)) ∧ h2 = h') (sel L (o.looksAt ops)) h) (k : dw P ops E ch rd π σ (bindD o.dst v L) (h' :: h :: hs) K) :
    dw P ops E ch rd π (i :: σ) L (h :: hs) K := by
  obtain ⟨Lf, hl, hs', d, k⟩ := k.get
  exact ⟨Lf, hl, hs', .chain ho hc (.run hg hr) d, k⟩
end
end Go.Proofs.Ytjafncnjefnloaa.Abs

/-
  Regions that draw their order, for any way to tell of states: slots by values of a type, the rest by another one. For any program.
-/
namespace Go.Proofs.Ytjafncnjefnloaa.Draw
open Go.RowKit
open Abs (gslot cnt cnt_f cnt_t cnt_app dirs isBef conf pairsOK planOK isBef_sound writes apart_conf filter_none cnt_mono cnt_zero cnt_all Plan planOK_plan)

variable {β γ : Type}
def bindD : Option Nat → β → List (Nat × β) → List (Nat × β)
  | some d, v, L => (d, v) :: L
  | none, _, L => L
def sel (L : List (Nat × β)) : List Nat → List (Nat × β)
  | [] => []
  | t :: ts => match L.lookup t with
    | some v => (t, v) :: sel L ts
    | none => sel L ts
def Sub (L L' : List (Nat × β)) : Prop := ∀ t v, L.lookup t = some v → L'.lookup t = some v
theorem sub_cons {t : Nat} {v : β} {L L' : List (Nat × β)} (h1 : L.lookup t = some v) (h2 : Sub L' L) : Sub ((t, v) :: L') L := by
  intro u x hx
  rw [List.lookup_cons] at hx
  by_cases e : u = t
  · subst e; simp at hx; subst hx; exact h1
  · have : (u == t) = false := by simpa using e
    rw [this] at hx; exact h2 u x hx
theorem sel_sub {L L' : List (Nat × β)} {ts : List Nat} (h : ∀ t ∈ ts, L'.lookup t = L.lookup t) : Sub (sel L ts) L' := by
  induction ts with
  | nil => intro t v h; simp [sel] at h
  | cons t ts ih =>
    have ih' := ih fun u hu => h u (by simp [hu])
    simp only [sel]
    split
    · rename_i v hv
      exact sub_cons ((h t (by simp)).trans hv) ih'
    · exact ih'

/-- A way to tell of states, and what an operation does in these words. -/
structure Sys (P : Program) (ops : Array Oper) (β γ : Type) where
  Rel : List (Nat × β) → γ → Act → World → Prop
  OT : Oper → List (Nat × β) → β → γ → γ → Prop
  weaken : ∀ {L L' : List (Nat × β)} {h : γ} {a : Act} {w : World}, Rel L h a w → Sub L' L → Rel L' h a w
  same : ∀ {L : List (Nat × β)} {h : γ} {a : Act} {w w' : World}, Rel L h a w → w'.heap = w.heap → w'.os = w.os → w'.tape = w.tape → w'.output = w.output → Rel L h a w'
  sound : ∀ {o : Oper} {L Lg : List (Nat × β)} {v : β} {h h' : γ} {i : Nat} {a : Act} {w : World} {Q : Exit → Act → World → Prop} {K : Act → World → Prop},
    OT o L v h h' → Sub L Lg → ops[i]? = some o → Rel Lg h a w → (∀ a' w', Rel (bindD o.dst v Lg) h' a' w' → K a' w') → wpOp P ops Q i K a w

section
variable {P : Program} {ops : Array Oper}
/-- The environment behind operations, in the order of a list. -/
def runEnv (ops : Array Oper) (val : Nat → β) : List Nat → List (Nat × β) → List (Nat × β)
  | [], L => L
  | i :: r, L => runEnv ops val r (bindD (gslot ops i) (val i) L)

/-- A run of a region's operations in the order of a list: pure ones at any heap, readers at every heap that they may see, the chain's from heap to heap (the newest first). -/
inductive DR {P : Program} {ops : Array Oper} (S : Sys P ops β γ) (ch rd π : List Nat) : List Nat → List (Nat × β) → List γ → List (Nat × β) → List γ → Prop
  | nil (L : List (Nat × β)) (hs : List γ) : DR S ch rd π [] L hs L hs
  | pure {i : Nat} {rest : List Nat} {L Lf : List (Nat × β)} {hs hf : List γ} {o : Oper} {v : β} (ho : ops[i]? = some o) (hc : ch.contains i = false) (ht : ∀ h, S.OT o (sel L (o.looksAt ops)) v h h) (k : DR S ch rd π rest (bindD o.dst v L) hs Lf hf) : DR S ch rd π (i :: rest) L hs Lf hf
  | read {i : Nat} {rest : List Nat} {L Lf : List (Nat × β)} {hs hf : List γ} {o : Oper} {v : β} (ho : ops[i]? = some o) (hc : ch.contains i = false) (hr : rd.contains i = true) (ht : ∀ h ∈ hs.take (hs.length - cnt ch (π.filter fun j => isBef ops j i)), S.OT o (sel L (o.looksAt ops)) v h h)
      (k : DR S ch rd π rest (bindD o.dst v L) hs Lf hf) : DR S ch rd π (i :: rest) L hs Lf hf
  | chain {i : Nat} {rest : List Nat} {L Lf : List (Nat × β)} {h h' : γ} {hs hf : List γ} {o : Oper} {v : β} (ho : ops[i]? = some o) (hc : ch.contains i = true) (ht : S.OT o (sel L (o.looksAt ops)) v h h') (k : DR S ch rd π rest (bindD o.dst v L) (h' :: h :: hs) Lf hf) :
      DR S ch rd π (i :: rest) L (h :: hs) Lf hf

/-- What is known of one operation of the run. -/
def Known (S : Sys P ops β γ) (ch rd π : List Nat) (hr : List γ) (c : Nat) (L : List (Nat × β)) (v : β) (i : Nat) : Prop :=
  ∃ o, ops[i]? = some o ∧
    ((ch.contains i = true ∧ ∃ h h', hr[c]? = some h ∧ hr[c + 1]? = some h' ∧ S.OT o (sel L (o.looksAt ops)) v h h') ∨
     (ch.contains i = false ∧ rd.contains i = true ∧ ∀ c' h, cnt ch (π.filter fun j => isBef ops j i) ≤ c' → c' ≤ c → hr[c']? = some h → S.OT o (sel L (o.looksAt ops)) v h h) ∨
     (ch.contains i = false ∧ ∀ h, S.OT o (sel L (o.looksAt ops)) v h h))

theorem runEnv_congr {ops : Array Oper} {val val' : Nat → β} : ∀ {l : List Nat} {L : List (Nat × β)}, (∀ i ∈ l, val i = val' i) → runEnv ops val l L = runEnv ops val' l L
  | [], _, _ => rfl
  | i :: l, L, h => by
    simp only [runEnv]
    rw [h i (by simp)]
    exact runEnv_congr fun j hj => h j (by simp [hj])

theorem DR.spec [Inhabited β] {S : Sys P ops β γ} {ch rd π : List Nat} {σ : List Nat} {L Lf : List (Nat × β)} {hs hf : List γ} (d : DR S ch rd π σ L hs Lf hf) (hnd : pairsOK (fun i j => i != j) σ = true) (hne : hs ≠ []) :
    ∃ val : Nat → β, Lf = runEnv ops val σ L ∧ (∃ nw, hf = nw ++ hs ∧ nw.length = cnt ch σ) ∧ ∀ pre i post, σ = pre ++ i :: post → Known S ch rd π hf.reverse (hs.length - 1 + cnt ch pre) (runEnv ops val pre L) (val i) i := by
  induction d with
  | nil L hs => exact ⟨fun _ => default, rfl, ⟨[], rfl, rfl⟩, fun pre i post e => by simp at e⟩
  | @pure i rest L Lf hs hf o v ho hc ht k ih =>
    simp only [pairsOK, Bool.and_eq_true] at hnd
    obtain ⟨val, h1, ⟨nw, h2, h2'⟩, h3⟩ := ih hnd.2 hne
    have hni : ∀ j ∈ rest, j ≠ i := fun j hj e => by have := List.all_eq_true.1 hnd.1 j hj; subst e; simp at this
    refine ⟨fun j => if j = i then v else val j, ?_, ⟨nw, h2, by rw [h2', cnt_f hc]⟩, fun pre j post e => ?_⟩
    · simp only [runEnv, if_true]
      rw [h1]
      have : gslot ops i = o.dst := by simp [gslot, ho]
      rw [this]
      exact runEnv_congr fun j hj => by rw [if_neg (hni j hj)]
    · cases pre with
      | nil =>
        simp at e
        obtain ⟨rfl, _⟩ := e
        exact ⟨o, ho, .inr (.inr ⟨hc, by simpa [runEnv] using ht⟩)⟩
      | cons x pre =>
        simp at e
        obtain ⟨rfl, e⟩ := e
        have hmem : j ∈ rest := by rw [e]; simp
        have := h3 pre j post e
        have e1 : cnt ch (i :: pre) = cnt ch pre := cnt_f hc
        have e2 : runEnv ops (fun j => if j = i then v else val j) (i :: pre) L = runEnv ops val pre (bindD o.dst v L) := by
          simp only [runEnv, if_true]
          have : gslot ops i = o.dst := by simp [gslot, ho]
          rw [this]
          exact runEnv_congr fun j hj => by rw [if_neg (hni j (by rw [e]; simp [hj]))]
        have e3 : (fun j => if j = i then v else val j) j = val j := if_neg (hni j hmem)
        rw [e1, e2, e3]
        exact this
  | @read i rest L Lf hs hf o v ho hc hrd ht k ih =>
    simp only [pairsOK, Bool.and_eq_true] at hnd
    obtain ⟨val, h1, ⟨nw, h2, h2'⟩, h3⟩ := ih hnd.2 hne
    have hni : ∀ j ∈ rest, j ≠ i := fun j hj e => by have := List.all_eq_true.1 hnd.1 j hj; subst e; simp at this
    refine ⟨fun j => if j = i then v else val j, ?_, ⟨nw, h2, by rw [h2', cnt_f hc]⟩, fun pre j post e => ?_⟩
    · simp only [runEnv, if_true]
      rw [h1]
      have : gslot ops i = o.dst := by simp [gslot, ho]
      rw [this]
      exact runEnv_congr fun j hj => by rw [if_neg (hni j hj)]
    · cases pre with
      | nil =>
        simp at e
        obtain ⟨rfl, _⟩ := e
        refine ⟨o, ho, .inr (.inl ⟨hc, hrd, fun c' h hlo hhi hget => ?_⟩)⟩
        simp only [runEnv, if_true]
        refine ht h ?_
        simp [cnt] at hhi
        rw [h2, List.reverse_append] at hget
        have hp : 0 < hs.length := List.length_pos_iff.2 hne
        rw [List.getElem?_append_left (by simp; omega), List.getElem?_reverse (by omega)] at hget
        rw [List.mem_take_iff_getElem]
        obtain ⟨hlt, e⟩ := List.getElem?_eq_some_iff.1 hget
        exact ⟨hs.length - 1 - c', by omega, e⟩
      | cons x pre =>
        simp at e
        obtain ⟨rfl, e⟩ := e
        have hmem : j ∈ rest := by rw [e]; simp
        have := h3 pre j post e
        have e1 : cnt ch (i :: pre) = cnt ch pre := cnt_f hc
        have e2 : runEnv ops (fun j => if j = i then v else val j) (i :: pre) L = runEnv ops val pre (bindD o.dst v L) := by
          simp only [runEnv, if_true]
          have : gslot ops i = o.dst := by simp [gslot, ho]
          rw [this]
          exact runEnv_congr fun j hj => by rw [if_neg (hni j (by rw [e]; simp [hj]))]
        have e3 : (fun j => if j = i then v else val j) j = val j := if_neg (hni j hmem)
        rw [e1, e2, e3]
        exact this
  | @chain i rest L Lf h h' hs hf o v ho hc ht k ih =>
    simp only [pairsOK, Bool.and_eq_true] at hnd
    obtain ⟨val, h1, ⟨nw, h2, h2'⟩, h3⟩ := ih hnd.2 (by simp)
    have hni : ∀ j ∈ rest, j ≠ i := fun j hj e => by have := List.all_eq_true.1 hnd.1 j hj; subst e; simp at this
    refine ⟨fun j => if j = i then v else val j, ?_, ⟨nw ++ [h'], by rw [h2]; simp, by rw [cnt_t hc]; simp [h2']⟩, fun pre j post e => ?_⟩
    · simp only [runEnv, if_true]
      rw [h1]
      have : gslot ops i = o.dst := by simp [gslot, ho]
      rw [this]
      exact runEnv_congr fun j hj => by rw [if_neg (hni j hj)]
    · cases pre with
      | nil =>
        simp at e
        obtain ⟨rfl, _⟩ := e
        refine ⟨o, ho, .inl ⟨hc, h, h', ?_, ?_, by simpa [runEnv] using ht⟩⟩
        · rw [h2]; simp [cnt]
        · rw [h2]; simp [cnt]
      | cons x pre =>
        simp at e
        obtain ⟨rfl, e⟩ := e
        have hmem : j ∈ rest := by rw [e]; simp
        have := h3 pre j post e
        have e1 : (h :: hs).length - 1 + cnt ch (i :: pre) = (h' :: h :: hs).length - 1 + cnt ch pre := by rw [cnt_t hc]; simp; omega
        have e2 : runEnv ops (fun j => if j = i then v else val j) (i :: pre) L = runEnv ops val pre (bindD o.dst v L) := by
          simp only [runEnv, if_true]
          have : gslot ops i = o.dst := by simp [gslot, ho]
          rw [this]
          exact runEnv_congr fun j hj => by rw [if_neg (hni j (by rw [e]; simp [hj]))]
        have e3 : (fun j => if j = i then v else val j) j = val j := if_neg (hni j hmem)
        rw [e1, e2, e3]
        exact this

/-- A slot's value depends on its writers alone. -/
theorem runEnv_lookup (ops : Array Oper) (val : Nat → β) (t : Nat) : ∀ (l : List Nat) (L L' : List (Nat × β)), L.lookup t = L'.lookup t → (runEnv ops val l L).lookup t = (runEnv ops val (l.filter (writes ops t)) L').lookup t
  | [], L, L', h => h
  | i :: l, L, L', h => by
    simp only [runEnv, List.filter_cons]
    cases hg : gslot ops i with
    | none =>
      have : writes ops t i = false := by simp [writes, hg]
      rw [this]
      exact runEnv_lookup ops val t l _ L' h
    | some d =>
      by_cases e : d = t
      · subst e
        have : writes ops d i = true := by simp [writes, hg]
        rw [this]
        simp only [if_true, runEnv, hg]
        exact runEnv_lookup ops val d l _ _ (by simp [bindD])
      · have : writes ops t i = false := by simp [writes, hg, e]
        rw [this]
        refine runEnv_lookup ops val t l _ L' ?_
        simp only [bindD, List.lookup_cons]
        have e' : (t == d) = false := by simpa using fun x => e x.symm
        rw [e']; exact h
theorem runEnv_same {ops : Array Oper} {val : Nat → β} {t : Nat} {l l' : List Nat} {L : List (Nat × β)} (h : l.filter (writes ops t) = l'.filter (writes ops t)) : (runEnv ops val l L).lookup t = (runEnv ops val l' L).lookup t := by
  rw [runEnv_lookup ops val t l L L rfl, runEnv_lookup ops val t l' L L rfl, h]
theorem runEnv_app (ops : Array Oper) (val : Nat → β) : ∀ (a b : List Nat) (L : List (Nat × β)), runEnv ops val (a ++ b) L = runEnv ops val b (runEnv ops val a L)
  | [], _, _ => rfl
  | _ :: a, b, _ => runEnv_app ops val a b _

theorem draw [Inhabited β] {S : Sys P ops β γ} {Q : Exit → Act → World → Prop} {L Lf : List (Nat × β)} {h hl : γ} {hs : List γ} {id : Nat} (hm : P.follows .mixedOrders = true) (π ch rd : List Nat) (hp : planOK ops π ch rd = true)
    (d : DR S ch rd π π L [h] Lf (hl :: hs)) (hq : ∀ a w, S.Rel Lf hl a w → Q .normal a w) {a : Act} {w : World} (r : S.Rel L h a w) : (Code.region id ops true).wp P Q a w := by
  have pl := planOK_plan hp
  obtain ⟨val, hLf, ⟨nw, hnw, hnwl⟩, hkn⟩ := d.spec pl.nd (by simp)
  have hrev : (hl :: hs).length = cnt ch π + 1 := by rw [hnw]; simp [hnwl]
  have hlast : (hl :: hs).reverse[cnt ch π]? = some hl := by
    rw [List.getElem?_reverse (by omega)]
    have : (hl :: hs).length - 1 - cnt ch π = 0 := by omega
    rw [this]; rfl
  have hfirst : (hl :: hs).reverse[0]? = some h := by rw [hnw]; simp
  have hHlen : (hl :: hs).reverse.length = cnt ch π + 1 := by rw [List.length_reverse]; exact hrev
  obtain ⟨H, hH⟩ : ∃ H, H = (hl :: hs).reverse := ⟨_, rfl⟩
  rw [← hH] at hkn hlast hfirst hHlen
  simp only [List.length_singleton, Nat.sub_self, Nat.zero_add] at hkn
  refine wp_region_any hm ?_
  have getF : ∀ (listed : Array Bool) (i : Nat), listed.size = ops.size → i < ops.size → listed.getD i true = listed.getD i false := fun listed i hsz hi => by
    simp [Array.getD, hsz, hi]
  have readyI : ∀ (listed : Array Bool) (i : Nat), listed.size = ops.size → i ∈ Region.ready .any ops listed → i < ops.size ∧ listed.getD i false = false ∧ ∀ (o : Oper), ops[i]? = some o → ∀ j ∈ dirs o, listed.getD j false = true := fun listed i hsz hi => by
    unfold Region.ready at hi
    obtain ⟨h1, h2⟩ := List.mem_filter.1 hi
    have h1 := List.mem_range.1 h1
    simp only [Bool.and_eq_true, Bool.not_eq_true'] at h2
    refine ⟨h1, by rw [← getF listed i hsz h1]; exact h2.1, fun o ho j hj => ?_⟩
    rw [ho] at h2
    simp only [Option.map_some, Option.getD_some] at h2
    unfold dirs at hj
    obtain ⟨ed, hed, hif⟩ := List.mem_filterMap.1 hj
    split at hif
    · rename_i hb
      cases hif
      have := Array.all_eq_true'.1 h2.2 ed (by simpa using hed)
      simpa [hb] using this
    · cases hif
  have readyE : ∀ (listed : Array Bool) (i : Nat) (o : Oper), listed.size = ops.size → ops[i]? = some o → listed.getD i false = false → (∀ j ∈ dirs o, listed.getD j false = true) → i ∈ Region.ready .any ops listed := fun listed i o hsz ho hli hd => by
    have hlt := (Array.getElem?_eq_some_iff.1 ho).1
    unfold Region.ready
    refine List.mem_filter.2 ⟨List.mem_range.2 hlt, ?_⟩
    rw [getF listed i hsz hlt, hli, ho]
    simp only [Bool.not_false, Bool.true_and, Option.map_some, Option.getD_some]
    rw [Array.all_eq_true']
    intro ed hed
    cases hb : Region.binds .any ed with
    | false => simp
    | true =>
      simp only [Bool.not_true, Bool.false_or]
      exact hd ed.on (by unfold dirs; exact List.mem_filterMap.2 ⟨ed, by simpa using hed, by simp [hb]⟩)
  have fin : ∀ (listed : Array Bool) (a : Act) (w : World) (hc : γ), listed.size = ops.size →
      H[cnt ch (π.filter fun i => listed.getD i false)]? = some hc → S.Rel (runEnv ops val (π.filter fun i => listed.getD i false) L) hc a w → Region.ready .any ops listed = [] → Q .normal a w := by
    intro listed a w hc hsz hcH r hready
    have hallX : ∀ (n : Nat) (pre post : List Nat), pre.length = n → π = pre ++ post → ∀ i ∈ pre, listed.getD i false = true := by
      intro n
      induction n with
      | zero => intro pre post hl0 _ i hi; rw [List.eq_nil_of_length_eq_zero hl0] at hi; simp at hi
      | succ n ih =>
        intro pre' post hl0 e i hi
        obtain ⟨pre, x, rfl⟩ : ∃ pre x, pre' = pre ++ [x] := by
          rcases List.eq_nil_or_concat pre' with h0 | ⟨l, x, h0⟩
          · subst h0; simp at hl0
          · exact ⟨l, x, by simpa using h0⟩
        have e' : π = pre ++ x :: post := by rw [e]; simp
        have hpre := ih pre (x :: post) (by simpa using hl0) e'
        rcases List.mem_append.1 hi with hi | hi
        · exact hpre i hi
        · simp at hi
          subst hi
          have hmem : i ∈ π := by rw [e']; simp
          have hxlt := pl.lt i hmem
          cases hli : listed.getD i false with
          | true => rfl
          | false =>
            exfalso
            have ho := Array.getElem?_eq_getElem hxlt
            have : i ∈ Region.ready .any ops listed := readyE listed i _ hsz ho hli fun j hj => by
              obtain ⟨j1, j2⟩ := pl.edge i hmem _ ho j hj
              have hjm := pl.all j j1
              rw [e'] at hjm
              rcases List.mem_append.1 hjm with hjm | hjm
              · exact hpre j hjm
              · rcases List.mem_cons.1 hjm with hjm | hjm
                · exact absurd hjm j2
                · exact absurd hj ((pl.pair pre i post e' j hjm).2.2.2.2 _ ho)
            rw [hready] at this
            cases this
    have e : π.filter (fun i => listed.getD i false) = π := List.filter_eq_self.2 (hallX π.length π [] rfl (by simp))
    rw [e] at hcH r
    rw [hlast] at hcH
    cases hcH
    exact hq _ _ (by rw [hLf]; exact r)
  have key : ∀ (fuel : Nat) (listed : Array Bool) (a : Act) (w : World) (hc : γ), listed.size = ops.size →
      (∀ (i : Nat) (o : Oper), ops[i]? = some o → listed.getD i false = true → ∀ j ∈ dirs o, listed.getD j false = true) →
      H[cnt ch (π.filter fun i => listed.getD i false)]? = some hc →
      (π.filter fun i => !listed.getD i false).length ≤ fuel →
      S.Rel (runEnv ops val (π.filter fun i => listed.getD i false) L) hc a w → wpAny P .any ops Q fuel listed a w := by
    intro fuel
    induction fuel with
    | zero =>
      intro listed a w hc hsz hcl hcH hfu r
      have hnil : Region.ready .any ops listed = [] := by
        cases hr : Region.ready .any ops listed with
        | nil => rfl
        | cons i l =>
          exfalso
          obtain ⟨h1, h2, _⟩ := readyI listed i hsz (by rw [hr]; simp)
          have : i ∈ π.filter fun i => !listed.getD i false := List.mem_filter.2 ⟨pl.all i h1, by rw [h2]; rfl⟩
          have := List.length_pos_of_mem this
          omega
      exact ⟨hnil, fin listed a w hc hsz hcH r hnil⟩
    | succ fuel ih =>
      intro listed a w hc hsz hcl hcH hfu r
      refine ⟨fin listed a w hc hsz hcH r, fun i hi => ?_⟩
      obtain ⟨hlt, hli, hdirs⟩ := readyI listed i hsz hi
      have ho := Array.getElem?_eq_getElem hlt
      have hmem := pl.all i hlt
      obtain ⟨pre, post, e⟩ := List.append_of_mem hmem
      have befX : ∀ {j}, isBef ops j i = true → listed.getD j false = true := fun hb => isBef_sound (X := fun j => listed.getD j false = true) hcl ho (hdirs _ ho) hb
      have noB : ∀ {j}, listed.getD j false = true → isBef ops i j = true → False := fun {j} hj hb => by
        rcases Nat.lt_or_ge j ops.size with hjl | hjl
        · have hoj := Array.getElem?_eq_getElem hjl
          have := isBef_sound (X := fun j => listed.getD j false = true) hcl hoj (hcl j _ hoj hj) hb
          rw [hli] at this; cases this
        · rw [Array.getD_eq_getD_getElem?, Array.getElem?_eq_none (by omega)] at hj; cases hj
      have pre_i : ∀ k ∈ pre, k ≠ i ∧ (conf ops k i = true → isBef ops k i = true) ∧ (ch.contains k = true → ch.contains i = true → isBef ops k i = true) := fun k hk => by
        obtain ⟨p1, p2, e2⟩ := List.append_of_mem hk
        have := pl.pair p1 k (p2 ++ i :: post) (by rw [e, e2]; simp) i (by simp)
        exact ⟨this.1, this.2.1, this.2.2.1⟩
      have post_i := pl.pair pre i post e
      -- the filters
      have fX : π.filter (fun i => listed.getD i false) = pre.filter (fun i => listed.getD i false) ++ post.filter (fun i => listed.getD i false) := by
        rw [e, List.filter_append, List.filter_cons, hli]; simp
      have getS : ∀ j, (listed.setIfInBounds i true).getD j false = if j = i then true else listed.getD j false := fun j => by
        rw [Array.getD_eq_getD_getElem?, Array.getD_eq_getD_getElem?]
        by_cases ej : j = i
        · subst ej; simp [hsz, hlt]
        · rw [Array.getElem?_setIfInBounds_ne (fun x => ej x.symm), if_neg ej]
      have fX' : π.filter (fun j => (listed.setIfInBounds i true).getD j false) = pre.filter (fun i => listed.getD i false) ++ i :: post.filter (fun i => listed.getD i false) := by
        rw [e, List.filter_append, List.filter_cons]
        have a1 : pre.filter (fun j => (listed.setIfInBounds i true).getD j false) = pre.filter (fun i => listed.getD i false) := List.filter_congr fun k hk => by rw [getS, if_neg (pre_i k hk).1]
        have a2 : post.filter (fun j => (listed.setIfInBounds i true).getD j false) = post.filter (fun i => listed.getD i false) := List.filter_congr fun k hk => by rw [getS, if_neg (fun x => (post_i k hk).1 x.symm)]
        rw [a1, a2, getS, if_pos rfl]
        simp
      have cX : cnt ch (π.filter fun i => listed.getD i false) = cnt ch (pre.filter fun i => listed.getD i false) + cnt ch (post.filter fun i => listed.getD i false) := by rw [fX, cnt_app]
      obtain ⟨o, ho', hk⟩ := hkn pre i post e
      have eo : o = ops[i] := by rw [ho] at ho'; cases ho'; rfl
      -- the operation sees what it saw
      have hsel : Sub (sel (runEnv ops val pre L) (o.looksAt ops)) (runEnv ops val (π.filter fun i => listed.getD i false) L) := sel_sub fun t ht => by
        refine runEnv_same ?_
        rw [fX, List.filter_append]
        have b1 : (post.filter fun i => listed.getD i false).filter (writes ops t) = [] := filter_none fun j hj hXj => by
          cases hw : writes ops t j with
          | false => rfl
          | true =>
            exfalso
            have hjl := pl.lt j (by rw [e]; simp [hj])
            have hoj := Array.getElem?_eq_getElem hjl
            have hdj : ops[j].dst = some t := by simpa [writes, gslot, hoj] using hw
            cases hcf : conf ops i j with
            | true => exact noB hXj ((post_i j hj).2.1 hcf)
            | false => exact (apart_conf ho' hoj hcf).2 t hdj ht
        have b2 : (pre.filter fun i => listed.getD i false).filter (writes ops t) = pre.filter (writes ops t) := by
          rw [List.filter_filter]
          refine List.filter_congr fun k hk => ?_
          cases hw : writes ops t k with
          | false => simp
          | true =>
            simp only [Bool.true_and]
            have hkl := pl.lt k (by rw [e]; simp [hk])
            have hok := Array.getElem?_eq_getElem hkl
            have hdk : ops[k].dst = some t := by simpa [writes, gslot, hok] using hw
            cases hcf : conf ops k i with
            | true => exact befX ((pre_i k hk).2.1 hcf)
            | false => exact absurd ht ((apart_conf hok ho' hcf).1 t hdk).1
        rw [b1, b2, List.append_nil]
      -- what stands behind it
      have hsub : Sub (runEnv ops val (π.filter fun j => (listed.setIfInBounds i true).getD j false) L) (bindD o.dst (val i) (runEnv ops val (π.filter fun i => listed.getD i false) L)) := fun t x hx => by
        rw [fX'] at hx
        have hgs : gslot ops i = o.dst := by simp [gslot, ho']
        by_cases hd : o.dst = some t
        · rw [hd]
          simp only [bindD, List.lookup_cons, beq_self_eq_true]
          rw [runEnv_app] at hx
          simp only [runEnv] at hx
          rw [hgs, hd] at hx
          have b1 : (post.filter fun i => listed.getD i false).filter (writes ops t) = [] := filter_none fun j hj hXj => by
            cases hw : writes ops t j with
            | false => rfl
            | true =>
              exfalso
              have hjl := pl.lt j (by rw [e]; simp [hj])
              have hoj := Array.getElem?_eq_getElem hjl
              have hdj : ops[j].dst = some t := by simpa [writes, gslot, hoj] using hw
              cases hcf : conf ops i j with
              | true => exact noB hXj ((post_i j hj).2.1 hcf)
              | false => exact ((apart_conf ho' hoj hcf).1 t hd).2 hdj
          rw [runEnv_lookup ops val t _ _ _ rfl, b1] at hx
          simpa [runEnv, bindD] using hx
        · have hw : writes ops t i = false := by simp [writes, hgs, hd]
          have e1 : (runEnv ops val (pre.filter (fun i => listed.getD i false) ++ i :: post.filter (fun i => listed.getD i false)) L).lookup t = (runEnv ops val (π.filter fun i => listed.getD i false) L).lookup t := by
            refine runEnv_same ?_
            rw [fX, List.filter_append, List.filter_append, List.filter_cons, hw]
            simp
          rw [e1] at hx
          cases hdd : o.dst with
          | none => exact hx
          | some d =>
            simp only [bindD, List.lookup_cons]
            have : (t == d) = false := by simpa using fun x => hd (by rw [hdd, x])
            rw [this]; exact hx
      have next : ∀ hc', H[cnt ch (π.filter fun j => (listed.setIfInBounds i true).getD j false)]? = some hc' → S.OT o (sel (runEnv ops val pre L) (o.looksAt ops)) (val i) hc hc' → wpOp P ops Q i (wpAny P .any ops Q fuel (listed.setIfInBounds i true)) a w := by
        intro hc' hcH' hot
        refine S.sound hot hsel ho' r fun a' w' r' => ?_
        refine ih _ a' w' hc' (by simp [hsz]) (fun j oj hoj hj k hkd => ?_) hcH' ?_ (S.weaken r' hsub)
        · rw [getS] at hj ⊢
          by_cases ek : k = i
          · rw [if_pos ek]
          · rw [if_neg ek]
            by_cases ej : j = i
            · subst ej
              exact hdirs oj hoj k hkd
            · rw [if_neg ej] at hj
              exact hcl j oj hoj hj k hkd
        · have hsplit : (π.filter fun j => !(listed.setIfInBounds i true).getD j false).length + 1 = (π.filter fun j => !listed.getD j false).length := by
            rw [e, List.filter_append, List.filter_append, List.filter_cons, List.filter_cons, hli, getS, if_pos rfl]
            have a1 : pre.filter (fun j => !(listed.setIfInBounds i true).getD j false) = pre.filter (fun i => !listed.getD i false) := List.filter_congr fun k hk => by rw [getS, if_neg (pre_i k hk).1]
            have a2 : post.filter (fun j => !(listed.setIfInBounds i true).getD j false) = post.filter (fun i => !listed.getD i false) := List.filter_congr fun k hk => by rw [getS, if_neg (fun x => (post_i k hk).1 x.symm)]
            rw [a1, a2]
            simp
            omega
          omega
      rcases hk with ⟨hch, h1, h2, g1, g2, hot⟩ | ⟨hch, hrd, hot⟩ | ⟨hch, hot⟩
      · -- a chain operation
        have c1 : cnt ch (pre.filter fun i => listed.getD i false) = cnt ch pre := cnt_all fun k hk hkc => befX ((pre_i k hk).2.2 hkc hch)
        have c2 : cnt ch (post.filter fun i => listed.getD i false) = 0 := cnt_zero fun j hj hXj => by
          cases hcj : ch.contains j with
          | false => rfl
          | true => exact (noB hXj ((post_i j hj).2.2.1 hch hcj)).elim
        have ehc : h1 = hc := by rw [cX, c1, c2, Nat.add_zero, g1] at hcH; cases hcH; rfl
        subst ehc
        refine next h2 ?_ hot
        rw [fX', cnt_app, cnt_t hch, c1, c2]
        exact g2
      · -- a reader
        have c2 : cnt ch (post.filter fun i => listed.getD i false) = 0 := cnt_zero fun j hj hXj => by
          cases hcj : ch.contains j with
          | false => rfl
          | true => exact (noB hXj ((post_i j hj).2.2.2.1 hrd hcj)).elim
        have c1 : cnt ch (pre.filter fun i => listed.getD i false) ≤ cnt ch pre := by
          have := cnt_mono (ch := ch) (l := pre) (p := fun i => listed.getD i false) (q := fun _ => true) (fun _ _ _ => rfl)
          rwa [List.filter_eq_self.2 (fun _ _ => rfl)] at this
        have c0 : cnt ch (π.filter fun j => isBef ops j i) ≤ cnt ch (π.filter fun i => listed.getD i false) := cnt_mono fun j _ hb => befX hb
        refine next hc ?_ (hot _ hc c0 (by rw [cX, c2]; omega) hcH)
        rw [fX', cnt_app, cnt_f hch, ← cX]
        exact hcH
      · refine next hc ?_ (hot hc)
        rw [fX', cnt_app, cnt_f hch, ← cX]
        exact hcH
  have e0 : π.filter (fun i => (Array.replicate ops.size false).getD i false) = [] := by
    rw [List.filter_eq_nil_iff]
    intro i hi
    simp [Array.getD, pl.lt i hi]
  refine key ops.size (Array.replicate ops.size false) a _ h (by simp) (fun i o ho hi => ?_) (by rw [e0]; exact hfirst) ?_ (by rw [e0]; exact S.same r rfl rfl rfl rfl)
  · have := (Array.getElem?_eq_some_iff.1 ho).1
    simp [Array.getD, this] at hi
  · exact Nat.le_trans (List.length_filter_le _ _) pl.len

end
end Go.Proofs.Ytjafncnjefnloaa.Draw

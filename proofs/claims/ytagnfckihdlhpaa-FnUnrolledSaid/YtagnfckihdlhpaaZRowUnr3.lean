/-
  Texts that the claim rests on, merged: AbsRes, Draw, AbsSched, DrawL, Den, DenR, DenF.
-/
import Derived.Test.YtagnfckihdlhpaaZRowUnr2

/-
  Results of many parts; contracts at local objects.
-/
namespace Go.Proofs.Ytagnfckihdlhpaa.Abs
open Go.RowKit

def rvRun (tmps : Array Value) : ResultVar → Sem Value
  | .tmp t => pure (tmps.getD t undef)
  | .cell a t => do loadVar t (← asAddr (tmps.getD a undef))

/-- One result. -/
structure Res1 (P : Program) (L : Env) (h : Heap) (rv : ResultVar) (v : AV) : Prop where
  get : ∀ E ι I a w, Rel E L h ι I a w → ∃ c, (rvRun a.tmps rv).run P w = .ok c w ∧ AR ι I w v c

inductive ResL (P : Program) (L : Env) (h : Heap) : List ResultVar → List AV → Prop
  | nil : ResL P L h [] []
  | cons {r : ResultVar} {v : AV} {rs : List ResultVar} {vs : List AV} : Res1 P L h r v → ResL P L h rs vs → ResL P L h (r :: rs) (v :: vs)

theorem ResL.run {P : Program} {L : Env} {h : Heap} {rs : List ResultVar} {vs : List AV} (k : ResL P L h rs vs) {E ι I a w} (r : Rel E L h ι I a w) :
    ∃ cs : List Value, (rs.mapM (rvRun a.tmps)).run P w = .ok cs w ∧ cs.length = vs.length ∧ ∀ j (hj : j < vs.length), ∃ c, cs[j]? = some c ∧ AR ι I w vs[j] c := by
  induction k with
  | nil => exact ⟨[], by simp, rfl, fun j hj => by simp at hj⟩
  | cons h1 _ ih =>
    obtain ⟨c, e1, e2⟩ := h1.get _ _ _ _ _ r
    obtain ⟨cs, e3, e4, e5⟩ := ih
    refine ⟨c :: cs, by simp [List.mapM_cons, e1, e3], by simp [e4], fun j hj => ?_⟩
    cases j with
    | zero => exact ⟨c, rfl, e2⟩
    | succ j => exact e5 j (by simpa using hj)

theorem res_tup {P : Program} {fn : Func} {L : Env} {h : Heap} {rs : List ResultVar} {vs : List AV} (hr : fn.results = rs.toArray) (h1 : rs.length ≠ 1) (k : ResL P L h rs vs) : Res P fn L h (.tup vs) :=
  ⟨fun E ι I a w r => by
    obtain ⟨cs, e1, e2, e3⟩ := k.run r
    have hlen : rs.length = vs.length := by clear e1 e2 e3 h1 hr; induction k with | nil => rfl | cons _ _ ih => simp [ih]
    refine ⟨.tuple cs.toArray, ?_, .tup (f := fun j => (cs[j]?).getD undef) (by simpa using e2) (fun j hj => ?_) (fun j hj => ?_)⟩
    · have e0 : results fn a.tmps = (do let vs ← rs.toArray.mapM (rvRun a.tmps); pure (if h : vs.size = 1 then vs[0] else .tuple vs)) := by
        unfold results
        rw [hr]
        congr 2
      rw [e0]
      simp [e1]
      have : cs.length ≠ 1 := by omega
      simp [this]
    · obtain ⟨c, g1, _⟩ := e3 j hj
      simp [g1]
    · obtain ⟨c, g1, g2⟩ := e3 j hj
      simpa [g1] using g2⟩
theorem res1_tmp {P : Program} {L : Env} {h : Heap} {t : Nat} {v : AV} (hv : L.lookup t = some v) : Res1 P L h (.tmp t) v :=
  ⟨fun E ι I a w r => by
    obtain ⟨c, h1, h2⟩ := r.slots t v hv
    exact ⟨c, by simp [rvRun, h1], h2⟩⟩
theorem res1_cell {P : Program} {L : Env} {h : Heap} {tb : Tbl} (htb : TbOK P tb) {t ty id k o s : Nat} {es : List (List V)} {e : List V} {i : TyI} {v : AV} (hx : L.lookup t = some (.one (.ptr id k o))) (ht : tb.lookup ty = some i) (ho : h[id]? = some (some (.row s es))) (he : es[k]? = some e)
    (hl : ldAV i.agg i.size (e.drop o) = some v) : Res1 P L h (.cell t ty) v :=
  ⟨fun E ι I a w r => by
    obtain ⟨inf, hι, hor, hsz⟩ := r.row ho
    obtain ⟨c, h1, h2⟩ := r.slots t _ hx
    have hv := h2.one'
    cases hv with
    | @ptr _ _ _ _ inf' hi =>
      have : inf' = inf := by rw [hι] at hi; cases hi; rfl
      subst this
      obtain ⟨f, hcell, hr'⟩ := hor.cells he (o := o)
      rw [← hsz] at hcell
      obtain ⟨c, g1, g2⟩ := load_run htb ht hcell hr' hl
      refine ⟨c, ?_, g2⟩
      simp [rvRun, h1, asAddr, g1]⟩
theorem res1_cellL {P : Program} {L : Env} {tb : Tbl} (htb : TbOK P tb) {h0 l : Heap} {n : Nat} (hn0 : h0.length = n) {t ty k' k o s : Nat} {es : List (List V)} {e : List V} {i : TyI} {v : AV} (hx : L.lookup t = some (.one (.ptr (n + k') k o))) (ht : tb.lookup ty = some i) (ho : l[k']? = some (some (.row s es))) (he : es[k]? = some e)
    (hl : ldAV i.agg i.size (e.drop o) = some v) : Res1 P L (h0 ++ l) (.cell t ty) v := res1_cell htb hx ht (get_split hn0 ho) he hl

/-- A contract that changes one local object. -/
theorem Fn.mine {P : Program} {h0 l : Heap} {n : Nat} (hn0 : h0.length = n) {f : FuncId} {xs : List AV} {v : AV} {k : Nat} {y : Option Ob} (hf : Fn P f xs (h0 ++ l) (fun r h' => r = v ∧ h' = (h0 ++ l).set (n + k) y)) : Fn P f xs (h0 ++ l) (fun r h' => r = v ∧ h' = h0 ++ l.set k y) := by
  rw [set_split hn0] at hf
  exact hf
theorem ao_heap {P : Program} {E : Cx} {K : Env → Heap → Prop} {L : Env} {h h' : Heap} {ops : Array Oper} {rest : List Oper} (e : h = h') (hh : ao P ops rest E K L h') : ao P ops rest E K L h := e ▸ hh
theorem aw_heap {P : Program} {E : Cx} {Q : Exit → Env → Heap → Prop} {L : Env} {h h' : Heap} {c : Code} (e : h = h') (hh : aw P c E Q L h') : aw P c E Q L h := e ▸ hh
/-- Ways meet ahead of the rest. -/
theorem aw_join {P : Program} {E : Cx} {Q : Exit → Env → Heap → Prop} {L : Env} {h : Heap} {x y : Code} (J : Env → Heap → Prop) (h1 : aw P x E (thenQ (fun L2 h2 => ∃ L', Sub L' L2 ∧ J L' h2) Q) L h) (h2 : ∀ L' h', J L' h' → aw P y E Q L' h') : aw P x E (thenQ (aw P y E Q) Q) L h :=
  aw_mono (fun e L h k => by
    cases e with
    | normal => obtain ⟨L', hs, hj⟩ := k; exact aw_weaken hs (h2 L' _ hj)
    | _ => exact k) h1

/-- A comparison of two bools. -/
def cmpB : BinOp → Bool → Bool → Bool
  | .eql, a, b => a == b
  | .neq, a, b => !(a == b)
  | _, _, _ => false
theorem ar_eqB' {P : Program} {E : Cx} {K : Env → Heap → Prop} {L : Env} {h : Heap} {d : Nat} {ty : TypeId} {pos : String} {af : Array Edge} {gd : Option (Nat × Bool)} {op : BinOp} {xt yt : TypeId} {x y : Operand} {a b : Bool} (ho : (op == .eql || op == .neq) = true) (hu : P.underlying xt = some .bool)
    (hx : ev L x = some (.one (.lit (.bool a)))) (hy : ev L y = some (.one (.lit (.bool b)))) (hn : d < E.n) (hk : K ((d, .one (.lit (.bool (cmpB op a b)))) :: L) h) : ar P ⟨some d, .binOp op xt x y yt, ty, pos, af, gd⟩ E K L h :=
  ar_bin (c := .bool (cmpB op a b)) hx hy (by simp) (fun w => by
    cases op <;> first
      | (cases ho; done)
      | (have e := run_equalIn_bool w (Op.maxDepth - 1) xt a b hu; rw [show Op.maxDepth - 1 + 1 = Op.maxDepth from rfl] at e; simp [binOp, Op.equal, e, cmpB])) (fun _ _ => trivial) hn hk
theorem ar_eqB {P : Program} {E : Cx} {K : Env → Heap → Prop} {L : Env} {h : Heap} {d : Nat} {ty : TypeId} {pos : String} {af : Array Edge} {gd : Option (Nat × Bool)} {tb : Tbl} (htb : TbOK P tb) {op : BinOp} {xt yt : TypeId} {x y : Operand} {a b : Bool} {i : TyI} (ho : (op == .eql || op == .neq) = true) (ht : tb.lookup xt = some i) (hd : i.desc = .bool)
    (hx : ev L x = some (.one (.lit (.bool a)))) (hy : ev L y = some (.one (.lit (.bool b)))) (hn : d < E.n) (hk : K ((d, .one (.lit (.bool (cmpB op a b)))) :: L) h) : ar P ⟨some d, .binOp op xt x y yt, ty, pos, af, gd⟩ E K L h := by
  obtain ⟨_, _, h2, _⟩ := tyOf_some (htb xt i ht)
  exact ar_eqB' ho (by rw [h2, hd]) hx hy hn hk
theorem aw_isT {P : Program} {E : Cx} {Q : Exit → Env → Heap → Prop} {L : Env} {h : Heap} {c : Operand} {x y : Code} {t : Bool} (hc : ev L c = some (.one (.lit (.bool t)))) (ht : t = true) (hh : aw P x E Q L h) : aw P (.cond c x y) E Q L h :=
  aw_cond hc (fun _ => hh) (fun e => by rw [ht] at e; cases e)
theorem aw_isF {P : Program} {E : Cx} {Q : Exit → Env → Heap → Prop} {L : Env} {h : Heap} {c : Operand} {x y : Code} {t : Bool} (hc : ev L c = some (.one (.lit (.bool t)))) (ht : t = false) (hh : aw P y E Q L h) : aw P (.cond c x y) E Q L h :=
  aw_cond hc (fun e => by rw [ht] at e; cases e) (fun _ => hh)
end Go.Proofs.Ytagnfckihdlhpaa.Abs

/-
  Regions that draw their order, for any way to tell of states: slots by values of a type, the rest by another one. For any program.
-/
namespace Go.Proofs.Ytagnfckihdlhpaa.Draw
open Go.RowKit
open Abs (gslot cnt cnt_f cnt_t cnt_app dirs isBef conf pairsOK planOK isBef_sound writes apart_conf filter_none cnt_mono cnt_zero cnt_all Plan planOK_plan)

variable {β γ : Type}
def bindD : Option Nat → β → List (Nat × β) → List (Nat × β)
  | some d, v, L => (d, v) :: L
  | none, _, L => L
def sel (L : List (Nat × β)) : List Nat → List (Nat × β)
  | [] => []
  | t :: ts => match L.lookup t with
    | some v => (t, v) :: sel L ts
    | none => sel L ts
def Sub (L L' : List (Nat × β)) : Prop := ∀ t v, L.lookup t = some v → L'.lookup t = some v
theorem sub_cons {t : Nat} {v : β} {L L' : List (Nat × β)} (h1 : L.lookup t = some v) (h2 : Sub L' L) : Sub ((t, v) :: L') L := by
  intro u x hx
  rw [List.lookup_cons] at hx
  by_cases e : u = t
  · subst e; simp at hx; subst hx; exact h1
  · have : (u == t) = false := by simpa using e
    rw [this] at hx; exact h2 u x hx
theorem sel_sub {L L' : List (Nat × β)} {ts : List Nat} (h : ∀ t ∈ ts, L'.lookup t = L.lookup t) : Sub (sel L ts) L' := by
  induction ts with
  | nil => intro t v h; simp [sel] at h
  | cons t ts ih =>
    have ih' := ih fun u hu => h u (by simp [hu])
    simp only [sel]
    split
    · rename_i v hv
      exact sub_cons ((h t (by simp)).trans hv) ih'
    · exact ih'

/-- A way to tell of states, and what an operation does in these words. -/
structure Sys (P : Program) (ops : Array Oper) (β γ : Type) where
  Rel : List (Nat × β) → γ → Act → World → Prop
  OT : Oper → List (Nat × β) → β → γ → γ → Prop
  weaken : ∀ {L L' : List (Nat × β)} {h : γ} {a : Act} {w : World}, Rel L h a w → Sub L' L → Rel L' h a w
  same : ∀ {L : List (Nat × β)} {h : γ} {a : Act} {w w' : World}, Rel L h a w → w'.heap = w.heap → w'.os = w.os → w'.tape = w.tape → w'.output = w.output → Rel L h a w'
  sound : ∀ {o : Oper} {L Lg : List (Nat × β)} {v : β} {h h' : γ} {i : Nat} {a : Act} {w : World} {Q : Exit → Act → World → Prop} {K : Act → World → Prop},
    OT o L v h h' → Sub L Lg → ops[i]? = some o → Rel Lg h a w → (∀ a' w', Rel (bindD o.dst v Lg) h' a' w' → K a' w') → wpOp P ops Q i K a w

section
variable {P : Program} {ops : Array Oper}
/-- The environment behind operations, in the order of a list. -/
def runEnv (ops : Array Oper) (val : Nat → β) : List Nat → List (Nat × β) → List (Nat × β)
  | [], L => L
  | i :: r, L => runEnv ops val r (bindD (gslot ops i) (val i) L)

/-- A run of a region's operations in the order of a list: pure ones at any heap, readers at every heap that they may see, the chain's from heap to heap (the newest first). -/
inductive DR {P : Program} {ops : Array Oper} (S : Sys P ops β γ) (ch rd π : List Nat) : List Nat → List (Nat × β) → List γ → List (Nat × β) → List γ → Prop
  | nil (L : List (Nat × β)) (hs : List γ) : DR S ch rd π [] L hs L hs
  | pure {i : Nat} {rest : List Nat} {L Lf : List (Nat × β)} {hs hf : List γ} {o : Oper} {v : β} (ho : ops[i]? = some o) (hc : ch.contains i = false) (ht : ∀ h, S.OT o (sel L (o.looksAt ops)) v h h) (k : DR S ch rd π rest (bindD o.dst v L) hs Lf hf) : DR S ch rd π (i :: rest) L hs Lf hf
  | read {i : Nat} {rest : List Nat} {L Lf : List (Nat × β)} {hs hf : List γ} {o : Oper} {v : β} (ho : ops[i]? = some o) (hc : ch.contains i = false) (hr : rd.contains i = true) (ht : ∀ h ∈ hs.take (hs.length - cnt ch (π.filter fun j => isBef ops j i)), S.OT o (sel L (o.looksAt ops)) v h h)
      (k : DR S ch rd π rest (bindD o.dst v L) hs Lf hf) : DR S ch rd π (i :: rest) L hs Lf hf
  | chain {i : Nat} {rest : List Nat} {L Lf : List (Nat × β)} {h h' : γ} {hs hf : List γ} {o : Oper} {v : β} (ho : ops[i]? = some o) (hc : ch.contains i = true) (ht : S.OT o (sel L (o.looksAt ops)) v h h') (k : DR S ch rd π rest (bindD o.dst v L) (h' :: h :: hs) Lf hf) :
      DR S ch rd π (i :: rest) L (h :: hs) Lf hf

/-- What is known of one operation of the run. -/
def Known (S : Sys P ops β γ) (ch rd π : List Nat) (hr : List γ) (c : Nat) (L : List (Nat × β)) (v : β) (i : Nat) : Prop :=
  ∃ o, ops[i]? = some o ∧
    ((ch.contains i = true ∧ ∃ h h', hr[c]? = some h ∧ hr[c + 1]? = some h' ∧ S.OT o (sel L (o.looksAt ops)) v h h') ∨
     (ch.contains i = false ∧ rd.contains i = true ∧ ∀ c' h, cnt ch (π.filter fun j => isBef ops j i) ≤ c' → c' ≤ c → hr[c']? = some h → S.OT o (sel L (o.looksAt ops)) v h h) ∨
     (ch.contains i = false ∧ ∀ h, S.OT o (sel L (o.looksAt ops)) v h h))

theorem runEnv_congr {ops : Array Oper} {val val' : Nat → β} : ∀ {l : List Nat} {L : List (Nat × β)}, (∀ i ∈ l, val i = val' i) → runEnv ops val l L = runEnv ops val' l L
  | [], _, _ => rfl
  | i :: l, L, h => by
    simp only [runEnv]
    rw [h i (by simp)]
    exact runEnv_congr fun j hj => h j (by simp [hj])

theorem DR.spec [Inhabited β] {S : Sys P ops β γ} {ch rd π : List Nat} {σ : List Nat} {L Lf : List (Nat × β)} {hs hf : List γ} (d : DR S ch rd π σ L hs Lf hf) (hnd : pairsOK (fun i j => i != j) σ = true) (hne : hs ≠ []) :
    ∃ val : Nat → β, Lf = runEnv ops val σ L ∧ (∃ nw, hf = nw ++ hs ∧ nw.length = cnt ch σ) ∧ ∀ pre i post, σ = pre ++ i :: post → Known S ch rd π hf.reverse (hs.length - 1 + cnt ch pre) (runEnv ops val pre L) (val i) i := by
  induction d with
  | nil L hs => exact ⟨fun _ => default, rfl, ⟨[], rfl, rfl⟩, fun pre i post e => by simp at e⟩
  | @pure i rest L Lf hs hf o v ho hc ht k ih =>
    simp only [pairsOK, Bool.and_eq_true] at hnd
    obtain ⟨val, h1, ⟨nw, h2, h2'⟩, h3⟩ := ih hnd.2 hne
    have hni : ∀ j ∈ rest, j ≠ i := fun j hj e => by have := List.all_eq_true.1 hnd.1 j hj; subst e; simp at this
    refine ⟨fun j => if j = i then v else val j, ?_, ⟨nw, h2, by rw [h2', cnt_f hc]⟩, fun pre j post e => ?_⟩
    · simp only [runEnv, if_true]
      rw [h1]
      have : gslot ops i = o.dst := by simp [gslot, ho]
      rw [this]
      exact runEnv_congr fun j hj => by rw [if_neg (hni j hj)]
    · cases pre with
      | nil =>
        simp at e
        obtain ⟨rfl, _⟩ := e
        exact ⟨o, ho, .inr (.inr ⟨hc, by simpa [runEnv] using ht⟩)⟩
      | cons x pre =>
        simp at e
        obtain ⟨rfl, e⟩ := e
        have hmem : j ∈ rest := by rw [e]; simp
        have := h3 pre j post e
        have e1 : cnt ch (i :: pre) = cnt ch pre := cnt_f hc
        have e2 : runEnv ops (fun j => if j = i then v else val j) (i :: pre) L = runEnv ops val pre (bindD o.dst v L) := by
          simp only [runEnv, if_true]
          have : gslot ops i = o.dst := by simp [gslot, ho]
          rw [this]
          exact runEnv_congr fun j hj => by rw [if_neg (hni j (by rw [e]; simp [hj]))]
        have e3 : (fun j => if j = i then v else val j) j = val j := if_neg (hni j hmem)
        rw [e1, e2, e3]
        exact this
  | @read i rest L Lf hs hf o v ho hc hrd ht k ih =>
    simp only [pairsOK, Bool.and_eq_true] at hnd
    obtain ⟨val, h1, ⟨nw, h2, h2'⟩, h3⟩ := ih hnd.2 hne
    have hni : ∀ j ∈ rest, j ≠ i := fun j hj e => by have := List.all_eq_true.1 hnd.1 j hj; subst e; simp at this
    refine ⟨fun j => if j = i then v else val j, ?_, ⟨nw, h2, by rw [h2', cnt_f hc]⟩, fun pre j post e => ?_⟩
    · simp only [runEnv, if_true]
      rw [h1]
      have : gslot ops i = o.dst := by simp [gslot, ho]
      rw [this]
      exact runEnv_congr fun j hj => by rw [if_neg (hni j hj)]
    · cases pre with
      | nil =>
        simp at e
        obtain ⟨rfl, _⟩ := e
        refine ⟨o, ho, .inr (.inl ⟨hc, hrd, fun c' h hlo hhi hget => ?_⟩)⟩
        simp only [runEnv, if_true]
        refine ht h ?_
        simp [cnt] at hhi
        rw [h2, List.reverse_append] at hget
        have hp : 0 < hs.length := List.length_pos_iff.2 hne
        rw [List.getElem?_append_left (by simp; omega), List.getElem?_reverse (by omega)] at hget
        rw [List.mem_take_iff_getElem]
        obtain ⟨hlt, e⟩ := List.getElem?_eq_some_iff.1 hget
        exact ⟨hs.length - 1 - c', by omega, e⟩
      | cons x pre =>
        simp at e
        obtain ⟨rfl, e⟩ := e
        have hmem : j ∈ rest := by rw [e]; simp
        have := h3 pre j post e
        have e1 : cnt ch (i :: pre) = cnt ch pre := cnt_f hc
        have e2 : runEnv ops (fun j => if j = i then v else val j) (i :: pre) L = runEnv ops val pre (bindD o.dst v L) := by
          simp only [runEnv, if_true]
          have : gslot ops i = o.dst := by simp [gslot, ho]
          rw [this]
          exact runEnv_congr fun j hj => by rw [if_neg (hni j (by rw [e]; simp [hj]))]
        have e3 : (fun j => if j = i then v else val j) j = val j := if_neg (hni j hmem)
        rw [e1, e2, e3]
        exact this
  | @chain i rest L Lf h h' hs hf o v ho hc ht k ih =>
    simp only [pairsOK, Bool.and_eq_true] at hnd
    obtain ⟨val, h1, ⟨nw, h2, h2'⟩, h3⟩ := ih hnd.2 (by simp)
    have hni : ∀ j ∈ rest, j ≠ i := fun j hj e => by have := List.all_eq_true.1 hnd.1 j hj; subst e; simp at this
    refine ⟨fun j => if j = i then v else val j, ?_, ⟨nw ++ [h'], by rw [h2]; simp, by rw [cnt_t hc]; simp [h2']⟩, fun pre j post e => ?_⟩
    · simp only [runEnv, if_true]
      rw [h1]
      have : gslot ops i = o.dst := by simp [gslot, ho]
      rw [this]
      exact runEnv_congr fun j hj => by rw [if_neg (hni j hj)]
    · cases pre with
      | nil =>
        simp at e
        obtain ⟨rfl, _⟩ := e
        refine ⟨o, ho, .inl ⟨hc, h, h', ?_, ?_, by simpa [runEnv] using ht⟩⟩
        · rw [h2]; simp [cnt]
        · rw [h2]; simp [cnt]
      | cons x pre =>
        simp at e
        obtain ⟨rfl, e⟩ := e
        have hmem : j ∈ rest := by rw [e]; simp
        have := h3 pre j post e
        have e1 : (h :: hs).length - 1 + cnt ch (i :: pre) = (h' :: h :: hs).length - 1 + cnt ch pre := by rw [cnt_t hc]; simp; omega
        have e2 : runEnv ops (fun j => if j = i then v else val j) (i :: pre) L = runEnv ops val pre (bindD o.dst v L) := by
          simp only [runEnv, if_true]
          have : gslot ops i = o.dst := by simp [gslot, ho]
          rw [this]
          exact runEnv_congr fun j hj => by rw [if_neg (hni j (by rw [e]; simp [hj]))]
        have e3 : (fun j => if j = i then v else val j) j = val j := if_neg (hni j hmem)
        rw [e1, e2, e3]
        exact this

/-- A slot's value depends on its writers alone. -/
theorem runEnv_lookup (ops : Array Oper) (val : Nat → β) (t : Nat) : ∀ (l : List Nat) (L L' : List (Nat × β)), L.lookup t = L'.lookup t → (runEnv ops val l L).lookup t = (runEnv ops val (l.filter (writes ops t)) L').lookup t
  | [], L, L', h => h
  | i :: l, L, L', h => by
    simp only [runEnv, List.filter_cons]
    cases hg : gslot ops i with
    | none =>
      have : writes ops t i = false := by simp [writes, hg]
      rw [this]
      exact runEnv_lookup ops val t l _ L' h
    | some d =>
      by_cases e : d = t
      · subst e
        have : writes ops d i = true := by simp [writes, hg]
        rw [this]
        simp only [if_true, runEnv, hg]
        exact runEnv_lookup ops val d l _ _ (by simp [bindD])
      · have : writes ops t i = false := by simp [writes, hg, e]
        rw [this]
        refine runEnv_lookup ops val t l _ L' ?_
        simp only [bindD, List.lookup_cons]
        have e' : (t == d) = false := by simpa using fun x => e x.symm
        rw [e']; exact h
theorem runEnv_same {ops : Array Oper} {val : Nat → β} {t : Nat} {l l' : List Nat} {L : List (Nat × β)} (h : l.filter (writes ops t) = l'.filter (writes ops t)) : (runEnv ops val l L).lookup t = (runEnv ops val l' L).lookup t := by
  rw [runEnv_lookup ops val t l L L rfl, runEnv_lookup ops val t l' L L rfl, h]
theorem runEnv_app (ops : Array Oper) (val : Nat → β) : ∀ (a b : List Nat) (L : List (Nat × β)), runEnv ops val (a ++ b) L = runEnv ops val b (runEnv ops val a L)
  | [], _, _ => rfl
  | _ :: a, b, _ => runEnv_app ops val a b _

theorem draw [Inhabited β] {S : Sys P ops β γ} {Q : Exit → Act → World → Prop} {L Lf : List (Nat × β)} {h hl : γ} {hs : List γ} {id : Nat} (hm : P.follows .mixedOrders = true) (π ch rd : List Nat) (hp : planOK ops π ch rd = true)
    (d : DR S ch rd π π L [h] Lf (hl :: hs)) (hq : ∀ a w, S.Rel Lf hl a w → Q .normal a w) {a : Act} {w : World} (r : S.Rel L h a w) : (Code.region id ops true).wp P Q a w := by
  have pl := planOK_plan hp
  obtain ⟨val, hLf, ⟨nw, hnw, hnwl⟩, hkn⟩ := d.spec pl.nd (by simp)
  have hrev : (hl :: hs).length = cnt ch π + 1 := by rw [hnw]; simp [hnwl]
  have hlast : (hl :: hs).reverse[cnt ch π]? = some hl := by
    rw [List.getElem?_reverse (by omega)]
    have : (hl :: hs).length - 1 - cnt ch π = 0 := by omega
    rw [this]; rfl
  have hfirst : (hl :: hs).reverse[0]? = some h := by rw [hnw]; simp
  have hHlen : (hl :: hs).reverse.length = cnt ch π + 1 := by rw [List.length_reverse]; exact hrev
  obtain ⟨H, hH⟩ : ∃ H, H = (hl :: hs).reverse := ⟨_, rfl⟩
  rw [← hH] at hkn hlast hfirst hHlen
  simp only [List.length_singleton, Nat.sub_self, Nat.zero_add] at hkn
  refine wp_region_any hm ?_
  have getF : ∀ (listed : Array Bool) (i : Nat), listed.size = ops.size → i < ops.size → listed.getD i true = listed.getD i false := fun listed i hsz hi => by
    simp [Array.getD, hsz, hi]
  have readyI : ∀ (listed : Array Bool) (i : Nat), listed.size = ops.size → i ∈ Region.ready .any ops listed → i < ops.size ∧ listed.getD i false = false ∧ ∀ (o : Oper), ops[i]? = some o → ∀ j ∈ dirs o, listed.getD j false = true := fun listed i hsz hi => by
    unfold Region.ready at hi
    obtain ⟨h1, h2⟩ := List.mem_filter.1 hi
    have h1 := List.mem_range.1 h1
    simp only [Bool.and_eq_true, Bool.not_eq_true'] at h2
    refine ⟨h1, by rw [← getF listed i hsz h1]; exact h2.1, fun o ho j hj => ?_⟩
    rw [ho] at h2
    simp only [Option.map_some, Option.getD_some] at h2
    unfold dirs at hj
    obtain ⟨ed, hed, hif⟩ := List.mem_filterMap.1 hj
    split at hif
    · rename_i hb
      cases hif
      have := Array.all_eq_true'.1 h2.2 ed (by simpa using hed)
      simpa [hb] using this
    · cases hif
  have readyE : ∀ (listed : Array Bool) (i : Nat) (o : Oper), listed.size = ops.size → ops[i]? = some o → listed.getD i false = false → (∀ j ∈ dirs o, listed.getD j false = true) → i ∈ Region.ready .any ops listed := fun listed i o hsz ho hli hd => by
    have hlt := (Array.getElem?_eq_some_iff.1 ho).1
    unfold Region.ready
    refine List.mem_filter.2 ⟨List.mem_range.2 hlt, ?_⟩
    rw [getF listed i hsz hlt, hli, ho]
    simp only [Bool.not_false, Bool.true_and, Option.map_some, Option.getD_some]
    rw [Array.all_eq_true']
    intro ed hed
    cases hb : Region.binds .any ed with
    | false => simp
    | true =>
      simp only [Bool.not_true, Bool.false_or]
      exact hd ed.on (by unfold dirs; exact List.mem_filterMap.2 ⟨ed, by simpa using hed, by simp [hb]⟩)
  have fin : ∀ (listed : Array Bool) (a : Act) (w : World) (hc : γ), listed.size = ops.size →
      H[cnt ch (π.filter fun i => listed.getD i false)]? = some hc → S.Rel (runEnv ops val (π.filter fun i => listed.getD i false) L) hc a w → Region.ready .any ops listed = [] → Q .normal a w := by
    intro listed a w hc hsz hcH r hready
    have hallX : ∀ (n : Nat) (pre post : List Nat), pre.length = n → π = pre ++ post → ∀ i ∈ pre, listed.getD i false = true := by
      intro n
      induction n with
      | zero => intro pre post hl0 _ i hi; rw [List.eq_nil_of_length_eq_zero hl0] at hi; simp at hi
      | succ n ih =>
        intro pre' post hl0 e i hi
        obtain ⟨pre, x, rfl⟩ : ∃ pre x, pre' = pre ++ [x] := by
          rcases List.eq_nil_or_concat pre' with h0 | ⟨l, x, h0⟩
          · subst h0; simp at hl0
          · exact ⟨l, x, by simpa using h0⟩
        have e' : π = pre ++ x :: post := by rw [e]; simp
        have hpre := ih pre (x :: post) (by simpa using hl0) e'
        rcases List.mem_append.1 hi with hi | hi
        · exact hpre i hi
        · simp at hi
          subst hi
          have hmem : i ∈ π := by rw [e']; simp
          have hxlt := pl.lt i hmem
          cases hli : listed.getD i false with
          | true => rfl
          | false =>
            exfalso
            have ho := Array.getElem?_eq_getElem hxlt
            have : i ∈ Region.ready .any ops listed := readyE listed i _ hsz ho hli fun j hj => by
              obtain ⟨j1, j2⟩ := pl.edge i hmem _ ho j hj
              have hjm := pl.all j j1
              rw [e'] at hjm
              rcases List.mem_append.1 hjm with hjm | hjm
              · exact hpre j hjm
              · rcases List.mem_cons.1 hjm with hjm | hjm
                · exact absurd hjm j2
                · exact absurd hj ((pl.pair pre i post e' j hjm).2.2.2.2 _ ho)
            rw [hready] at this
            cases this
    have e : π.filter (fun i => listed.getD i false) = π := List.filter_eq_self.2 (hallX π.length π [] rfl (by simp))
    rw [e] at hcH r
    rw [hlast] at hcH
    cases hcH
    exact hq _ _ (by rw [hLf]; exact r)
  have key : ∀ (fuel : Nat) (listed : Array Bool) (a : Act) (w : World) (hc : γ), listed.size = ops.size →
      (∀ (i : Nat) (o : Oper), ops[i]? = some o → listed.getD i false = true → ∀ j ∈ dirs o, listed.getD j false = true) →
      H[cnt ch (π.filter fun i => listed.getD i false)]? = some hc →
      (π.filter fun i => !listed.getD i false).length ≤ fuel →
      S.Rel (runEnv ops val (π.filter fun i => listed.getD i false) L) hc a w → wpAny P .any ops Q fuel listed a w := by
    intro fuel
    induction fuel with
    | zero =>
      intro listed a w hc hsz hcl hcH hfu r
      have hnil : Region.ready .any ops listed = [] := by
        cases hr : Region.ready .any ops listed with
        | nil => rfl
        | cons i l =>
          exfalso
          obtain ⟨h1, h2, _⟩ := readyI listed i hsz (by rw [hr]; simp)
          have : i ∈ π.filter fun i => !listed.getD i false := List.mem_filter.2 ⟨pl.all i h1, by rw [h2]; rfl⟩
          have := List.length_pos_of_mem this
          omega
      exact ⟨hnil, fin listed a w hc hsz hcH r hnil⟩
    | succ fuel ih =>
      intro listed a w hc hsz hcl hcH hfu r
      refine ⟨fin listed a w hc hsz hcH r, fun i hi => ?_⟩
      obtain ⟨hlt, hli, hdirs⟩ := readyI listed i hsz hi
      have ho := Array.getElem?_eq_getElem hlt
      have hmem := pl.all i hlt
      obtain ⟨pre, post, e⟩ := List.append_of_mem hmem
      have befX : ∀ {j}, isBef ops j i = true → listed.getD j false = true := fun hb => isBef_sound (X := fun j => listed.getD j false = true) hcl ho (hdirs _ ho) hb
      have noB : ∀ {j}, listed.getD j false = true → isBef ops i j = true → False := fun {j} hj hb => by
        rcases Nat.lt_or_ge j ops.size with hjl | hjl
        · have hoj := Array.getElem?_eq_getElem hjl
          have := isBef_sound (X := fun j => listed.getD j false = true) hcl hoj (hcl j _ hoj hj) hb
          rw [hli] at this; cases this
        · rw [Array.getD_eq_getD_getElem?, Array.getElem?_eq_none (by omega)] at hj; cases hj
      have pre_i : ∀ k ∈ pre, k ≠ i ∧ (conf ops k i = true → isBef ops k i = true) ∧ (ch.contains k = true → ch.contains i = true → isBef ops k i = true) := fun k hk => by
        obtain ⟨p1, p2, e2⟩ := List.append_of_mem hk
        have := pl.pair p1 k (p2 ++ i :: post) (by rw [e, e2]; simp) i (by simp)
        exact ⟨this.1, this.2.1, this.2.2.1⟩
      have post_i := pl.pair pre i post e
      -- the filters
      have fX : π.filter (fun i => listed.getD i false) = pre.filter (fun i => listed.getD i false) ++ post.filter (fun i => listed.getD i false) := by
        rw [e, List.filter_append, List.filter_cons, hli]; simp
      have getS : ∀ j, (listed.setIfInBounds i true).getD j false = if j = i then true else listed.getD j false := fun j => by
        rw [Array.getD_eq_getD_getElem?, Array.getD_eq_getD_getElem?]
        by_cases ej : j = i
        · subst ej; simp [hsz, hlt]
        · rw [Array.getElem?_setIfInBounds_ne (fun x => ej x.symm), if_neg ej]
      have fX' : π.filter (fun j => (listed.setIfInBounds i true).getD j false) = pre.filter (fun i => listed.getD i false) ++ i :: post.filter (fun i => listed.getD i false) := by
        rw [e, List.filter_append, List.filter_cons]
        have a1 : pre.filter (fun j => (listed.setIfInBounds i true).getD j false) = pre.filter (fun i => listed.getD i false) := List.filter_congr fun k hk => by rw [getS, if_neg (pre_i k hk).1]
        have a2 : post.filter (fun j => (listed.setIfInBounds i true).getD j false) = post.filter (fun i => listed.getD i false) := List.filter_congr fun k hk => by rw [getS, if_neg (fun x => (post_i k hk).1 x.symm)]
        rw [a1, a2, getS, if_pos rfl]
        simp
      have cX : cnt ch (π.filter fun i => listed.getD i false) = cnt ch (pre.filter fun i => listed.getD i false) + cnt ch (post.filter fun i => listed.getD i false) := by rw [fX, cnt_app]
      obtain ⟨o, ho', hk⟩ := hkn pre i post e
      have eo : o = ops[i] := by rw [ho] at ho'; cases ho'; rfl
      -- the operation sees what it saw
      have hsel : Sub (sel (runEnv ops val pre L) (o.looksAt ops)) (runEnv ops val (π.filter fun i => listed.getD i false) L) := sel_sub fun t ht => by
        refine runEnv_same ?_
        rw [fX, List.filter_append]
        have b1 : (post.filter fun i => listed.getD i false).filter (writes ops t) = [] := filter_none fun j hj hXj => by
          cases hw : writes ops t j with
          | false => rfl
          | true =>
            exfalso
            have hjl := pl.lt j (by rw [e]; simp [hj])
            have hoj := Array.getElem?_eq_getElem hjl
            have hdj : ops[j].dst = some t := by simpa [writes, gslot, hoj] using hw
            cases hcf : conf ops i j with
            | true => exact noB hXj ((post_i j hj).2.1 hcf)
            | false => exact (apart_conf ho' hoj hcf).2 t hdj ht
        have b2 : (pre.filter fun i => listed.getD i false).filter (writes ops t) = pre.filter (writes ops t) := by
          rw [List.filter_filter]
          refine List.filter_congr fun k hk => ?_
          cases hw : writes ops t k with
          | false => simp
          | true =>
            simp only [Bool.true_and]
            have hkl := pl.lt k (by rw [e]; simp [hk])
            have hok := Array.getElem?_eq_getElem hkl
            have hdk : ops[k].dst = some t := by simpa [writes, gslot, hok] using hw
            cases hcf : conf ops k i with
            | true => exact befX ((pre_i k hk).2.1 hcf)
            | false => exact absurd ht ((apart_conf hok ho' hcf).1 t hdk).1
        rw [b1, b2, List.append_nil]
      -- what stands behind it
      have hsub : Sub (runEnv ops val (π.filter fun j => (listed.setIfInBounds i true).getD j false) L) (bindD o.dst (val i) (runEnv ops val (π.filter fun i => listed.getD i false) L)) := fun t x hx => by
        rw [fX'] at hx
        have hgs : gslot ops i = o.dst := by simp [gslot, ho']
        by_cases hd : o.dst = some t
        · rw [hd]
          simp only [bindD, List.lookup_cons, beq_self_eq_true]
          rw [runEnv_app] at hx
          simp only [runEnv] at hx
          rw [hgs, hd] at hx
          have b1 : (post.filter fun i => listed.getD i false).filter (writes ops t) = [] := filter_none fun j hj hXj => by
            cases hw : writes ops t j with
            | false => rfl
            | true =>
              exfalso
              have hjl := pl.lt j (by rw [e]; simp [hj])
              have hoj := Array.getElem?_eq_getElem hjl
              have hdj : ops[j].dst = some t := by simpa [writes, gslot, hoj] using hw
              cases hcf : conf ops i j with
              | true => exact noB hXj ((post_i j hj).2.1 hcf)
              | false => exact ((apart_conf ho' hoj hcf).1 t hd).2 hdj
          rw [runEnv_lookup ops val t _ _ _ rfl, b1] at hx
          simpa [runEnv, bindD] using hx
        · have hw : writes ops t i = false := by simp [writes, hgs, hd]
          have e1 : (runEnv ops val (pre.filter (fun i => listed.getD i false) ++ i :: post.filter (fun i => listed.getD i false)) L).lookup t = (runEnv ops val (π.filter fun i => listed.getD i false) L).lookup t := by
            refine runEnv_same ?_
            rw [fX, List.filter_append, List.filter_append, List.filter_cons, hw]
            simp
          rw [e1] at hx
          cases hdd : o.dst with
          | none => exact hx
          | some d =>
            simp only [bindD, List.lookup_cons]
            have : (t == d) = false := by simpa using fun x => hd (by rw [hdd, x])
            rw [this]; exact hx
      have next : ∀ hc', H[cnt ch (π.filter fun j => (listed.setIfInBounds i true).getD j false)]? = some hc' → S.OT o (sel (runEnv ops val pre L) (o.looksAt ops)) (val i) hc hc' → wpOp P ops Q i (wpAny P .any ops Q fuel (listed.setIfInBounds i true)) a w := by
        intro hc' hcH' hot
        refine S.sound hot hsel ho' r fun a' w' r' => ?_
        refine ih _ a' w' hc' (by simp [hsz]) (fun j oj hoj hj k hkd => ?_) hcH' ?_ (S.weaken r' hsub)
        · rw [getS] at hj ⊢
          by_cases ek : k = i
          · rw [if_pos ek]
          · rw [if_neg ek]
            by_cases ej : j = i
            · subst ej
              exact hdirs oj hoj k hkd
            · rw [if_neg ej] at hj
              exact hcl j oj hoj hj k hkd
        · have hsplit : (π.filter fun j => !(listed.setIfInBounds i true).getD j false).length + 1 = (π.filter fun j => !listed.getD j false).length := by
            rw [e, List.filter_append, List.filter_append, List.filter_cons, List.filter_cons, hli, getS, if_pos rfl]
            have a1 : pre.filter (fun j => !(listed.setIfInBounds i true).getD j false) = pre.filter (fun i => !listed.getD i false) := List.filter_congr fun k hk => by rw [getS, if_neg (pre_i k hk).1]
            have a2 : post.filter (fun j => !(listed.setIfInBounds i true).getD j false) = post.filter (fun i => !listed.getD i false) := List.filter_congr fun k hk => by rw [getS, if_neg (fun x => (post_i k hk).1 x.symm)]
            rw [a1, a2]
            simp
            omega
          omega
      rcases hk with ⟨hch, h1, h2, g1, g2, hot⟩ | ⟨hch, hrd, hot⟩ | ⟨hch, hot⟩
      · -- a chain operation
        have c1 : cnt ch (pre.filter fun i => listed.getD i false) = cnt ch pre := cnt_all fun k hk hkc => befX ((pre_i k hk).2.2 hkc hch)
        have c2 : cnt ch (post.filter fun i => listed.getD i false) = 0 := cnt_zero fun j hj hXj => by
          cases hcj : ch.contains j with
          | false => rfl
          | true => exact (noB hXj ((post_i j hj).2.2.1 hch hcj)).elim
        have ehc : h1 = hc := by rw [cX, c1, c2, Nat.add_zero, g1] at hcH; cases hcH; rfl
        subst ehc
        refine next h2 ?_ hot
        rw [fX', cnt_app, cnt_t hch, c1, c2]
        exact g2
      · -- a reader
        have c2 : cnt ch (post.filter fun i => listed.getD i false) = 0 := cnt_zero fun j hj hXj => by
          cases hcj : ch.contains j with
          | false => rfl
          | true => exact (noB hXj ((post_i j hj).2.2.2.1 hrd hcj)).elim
        have c1 : cnt ch (pre.filter fun i => listed.getD i false) ≤ cnt ch pre := by
          have := cnt_mono (ch := ch) (l := pre) (p := fun i => listed.getD i false) (q := fun _ => true) (fun _ _ _ => rfl)
          rwa [List.filter_eq_self.2 (fun _ _ => rfl)] at this
        have c0 : cnt ch (π.filter fun j => isBef ops j i) ≤ cnt ch (π.filter fun i => listed.getD i false) := cnt_mono fun j _ hb => befX hb
        refine next hc ?_ (hot _ hc c0 (by rw [cX, c2]; omega) hcH)
        rw [fX', cnt_app, cnt_f hch, ← cX]
        exact hcH
      · refine next hc ?_ (hot hc)
        rw [fX', cnt_app, cnt_f hch, ← cX]
        exact hcH
  have e0 : π.filter (fun i => (Array.replicate ops.size false).getD i false) = [] := by
    rw [List.filter_eq_nil_iff]
    intro i hi
    simp [Array.getD, pl.lt i hi]
  refine key ops.size (Array.replicate ops.size false) a _ h (by simp) (fun i o ho hi => ?_) (by rw [e0]; exact hfirst) ?_ (by rw [e0]; exact S.same r rfl rfl rfl rfl)
  · have := (Array.getElem?_eq_some_iff.1 ho).1
    simp [Array.getD, this] at hi
  · exact Nat.le_trans (List.length_filter_le _ _) pl.len

end
end Go.Proofs.Ytagnfckihdlhpaa.Draw

/-
  The abstract program logic: regions that draw the order of operations that make or change memory. For any program.
-/
namespace Go.Proofs.Ytagnfckihdlhpaa.Abs
open Go.RowKit

/-- An order that a region may draw. -/
structure Lin (ops : Array Oper) (σ : List Nat) : Prop where
  ok : ∀ s1 i s2, σ = s1 ++ i :: s2 → i < ops.size ∧ i ∉ s1 ∧ ∀ o, ops[i]? = some o → ∀ j ∈ dirs o, j ∈ s1
  full : ∀ i, i < ops.size → i ∉ σ → ∃ o, ops[i]? = some o ∧ ∃ j ∈ dirs o, j ∉ σ

theorem getD_tf {listed : Array Bool} {i n : Nat} (hsz : listed.size = n) (hi : i < n) : listed.getD i true = listed.getD i false := by
  simp [Array.getD, hsz, hi]
theorem ready_of {ops : Array Oper} {listed : Array Bool} {i : Nat} (hsz : listed.size = ops.size) (hi : i ∈ Region.ready .any ops listed) : i < ops.size ∧ listed.getD i false = false ∧ ∀ (o : Oper), ops[i]? = some o → ∀ j ∈ dirs o, listed.getD j false = true := by
  unfold Region.ready at hi
  obtain ⟨h1, h2⟩ := List.mem_filter.1 hi
  have h1 := List.mem_range.1 h1
  simp only [Bool.and_eq_true, Bool.not_eq_true'] at h2
  refine ⟨h1, by rw [← getD_tf hsz h1]; exact h2.1, fun o ho j hj => ?_⟩
  rw [ho] at h2
  simp only [Option.map_some, Option.getD_some] at h2
  unfold dirs at hj
  obtain ⟨ed, hed, hif⟩ := List.mem_filterMap.1 hj
  split at hif
  · rename_i hb
    cases hif
    have := Array.all_eq_true'.1 h2.2 ed (by simpa using hed)
    simpa [hb] using this
  · cases hif
theorem of_ready {ops : Array Oper} {listed : Array Bool} {i : Nat} {o : Oper} (hsz : listed.size = ops.size) (ho : ops[i]? = some o) (hli : listed.getD i false = false) (hd : ∀ j ∈ dirs o, listed.getD j false = true) : i ∈ Region.ready .any ops listed := by
  have hlt := (Array.getElem?_eq_some_iff.1 ho).1
  unfold Region.ready
  refine List.mem_filter.2 ⟨List.mem_range.2 hlt, ?_⟩
  rw [getD_tf hsz hlt, hli, ho]
  simp only [Bool.not_false, Bool.true_and, Option.map_some, Option.getD_some]
  rw [Array.all_eq_true']
  intro ed hed
  cases hb : Region.binds .any ed with
  | false => simp
  | true =>
    simp only [Bool.not_true, Bool.false_or]
    exact hd ed.on (by unfold dirs; exact List.mem_filterMap.2 ⟨ed, by simpa using hed, by simp [hb]⟩)

theorem getD_set {listed : Array Bool} {i n : Nat} (hsz : listed.size = n) (hi : i < n) (j : Nat) : (listed.setIfInBounds i true).getD j false = if j = i then true else listed.getD j false := by
  rw [Array.getD_eq_getD_getElem?, Array.getD_eq_getD_getElem?]
  by_cases ej : j = i
  · subst ej; simp [hsz, hi]
  · rw [Array.getElem?_setIfInBounds_ne (fun x => ej x.symm), if_neg ej]

theorem lin_go (ops : Array Oper) : ∀ (fuel t : Nat) (listed : Array Bool), listed.size = ops.size →
    (∀ s1 i s2, Region.linearise.go .any ops fuel t listed [] = s1 ++ i :: s2 → i < ops.size ∧ listed.getD i false = false ∧ i ∉ s1 ∧ ∀ o, ops[i]? = some o → ∀ j ∈ dirs o, listed.getD j false = true ∨ j ∈ s1) ∧
    (((List.range ops.size).filter fun i => !listed.getD i false).length ≤ fuel → ∀ i, i < ops.size → listed.getD i false = false → i ∉ Region.linearise.go .any ops fuel t listed [] →
      ∃ o, ops[i]? = some o ∧ ∃ j ∈ dirs o, listed.getD j false = false ∧ j ∉ Region.linearise.go .any ops fuel t listed []) := by
  intro fuel
  induction fuel with
  | zero =>
    intro t listed hsz
    refine ⟨fun s1 i s2 e => by simp [Region.linearise.go] at e, fun hc i hi hli _ => ?_⟩
    exfalso
    have : i ∈ (List.range ops.size).filter fun i => !listed.getD i false := List.mem_filter.2 ⟨List.mem_range.2 hi, by rw [hli]; rfl⟩
    have := List.length_pos_of_mem this
    omega
  | succ fuel ih =>
    intro t listed hsz
    have e0 : Region.linearise.go .any ops (fuel + 1) t listed [] = (match (Region.ready .any ops listed)[t % (Region.ready .any ops listed).length]? with
      | some i => Region.linearise.go .any ops fuel (t / (Region.ready .any ops listed).length) (listed.setIfInBounds i true) [i]
      | none => [].reverse) := rfl
    rw [e0]
    cases hi : (Region.ready .any ops listed)[t % (Region.ready .any ops listed).length]? with
    | none =>
      have hnil : Region.ready .any ops listed = [] := by
        cases hr : Region.ready .any ops listed with
        | nil => rfl
        | cons x xs =>
          rw [hr] at hi
          have hlt : t % (x :: xs).length < (x :: xs).length := Nat.mod_lt _ (by simp)
          simp at hi
          simp at hlt
          omega
      refine ⟨fun s1 i s2 e => by simp at e, fun hc i hil hli _ => ?_⟩
      have ho := Array.getElem?_eq_getElem hil
      refine ⟨_, ho, ?_⟩
      apply Classical.byContradiction
      intro hno
      have : i ∈ Region.ready .any ops listed := of_ready hsz ho hli fun j hj => by
        cases hlj : listed.getD j false with
        | true => rfl
        | false => exact absurd ⟨j, hj, hlj, by simp⟩ hno
      rw [hnil] at this
      cases this
    | some i =>
      simp only []
      rw [linearise_go_acc, List.reverse_singleton, List.singleton_append]
      obtain ⟨r1, r2, r3⟩ := ready_of hsz (List.mem_of_getElem? hi)
      obtain ⟨ihA, ihB⟩ := ih (t / (Region.ready .any ops listed).length) (listed.setIfInBounds i true) (by simp [hsz])
      refine ⟨fun s1 k s2 e => ?_, fun hc k hk hlk hnk => ?_⟩
      · cases s1 with
        | nil =>
          simp at e
          obtain ⟨rfl, _⟩ := e
          exact ⟨r1, r2, by simp, fun o ho j hj => .inl (r3 o ho j hj)⟩
        | cons x s1 =>
          simp at e
          obtain ⟨rfl, e⟩ := e
          obtain ⟨a1, a2, a3, a4⟩ := ihA s1 k s2 e
          rw [getD_set hsz r1] at a2
          by_cases ek : k = i
          · rw [if_pos ek] at a2; cases a2
          · rw [if_neg ek] at a2
            refine ⟨a1, a2, by simp [ek, a3], fun o ho j hj => ?_⟩
            have := a4 o ho j hj
            rw [getD_set hsz r1] at this
            by_cases ej : j = i
            · exact .inr (by simp [ej])
            · rw [if_neg ej] at this
              rcases this with h | h
              · exact .inl h
              · exact .inr (by simp [h])
      · have hki : k ≠ i := fun e => hnk (by simp [e])
        have hcount : ((List.range ops.size).filter fun j => !(listed.setIfInBounds i true).getD j false).length ≤ fuel := by
          have hmem : i ∈ List.range ops.size := List.mem_range.2 r1
          obtain ⟨pre, post, e⟩ := List.append_of_mem hmem
          have hnd : (List.range ops.size).Nodup := List.nodup_range
          rw [e] at hnd hc ⊢
          have hp : ∀ k ∈ pre, k ≠ i := fun k hk e' => by
            subst e'
            have := List.nodup_append.1 hnd
            exact this.2.2 k hk k (by simp) rfl
          have hq : ∀ k ∈ post, k ≠ i := fun k hk e' => by
            subst e'
            have := (List.nodup_append.1 hnd).2.1
            exact (List.nodup_cons.1 this).1 hk
          rw [List.filter_append, List.filter_cons] at hc ⊢
          rw [r2] at hc
          rw [getD_set hsz r1, if_pos rfl]
          have a1 : pre.filter (fun j => !(listed.setIfInBounds i true).getD j false) = pre.filter (fun i => !listed.getD i false) := List.filter_congr fun k hk => by rw [getD_set hsz r1, if_neg (hp k hk)]
          have a2 : post.filter (fun j => !(listed.setIfInBounds i true).getD j false) = post.filter (fun i => !listed.getD i false) := List.filter_congr fun k hk => by rw [getD_set hsz r1, if_neg (hq k hk)]
          rw [a1, a2]
          simp at hc ⊢
          omega
        obtain ⟨o, ho, j, hj, hlj, hnj⟩ := ihB hcount k hk (by rw [getD_set hsz r1, if_neg hki]; exact hlk) (fun h => hnk (by simp [h]))
        rw [getD_set hsz r1] at hlj
        by_cases ej : j = i
        · rw [if_pos ej] at hlj; cases hlj
        · rw [if_neg ej] at hlj
          exact ⟨o, ho, j, hj, hlj, by simp [ej, hnj]⟩

theorem linearise_lin (ops : Array Oper) (t : Nat) : Lin ops (Region.linearise .any ops t) := by
  have hf : ∀ i, (Array.replicate ops.size false).getD i false = false := fun i => by
    rw [Array.getD_eq_getD_getElem?]
    by_cases hi : i < ops.size
    · simp [hi]
    · simp [hi]
  obtain ⟨hA, hB⟩ := lin_go ops ops.size t (Array.replicate ops.size false) (by simp)
  refine ⟨fun s1 i s2 e => ?_, fun i hi hn => ?_⟩
  · obtain ⟨a1, _, a3, a4⟩ := hA s1 i s2 e
    refine ⟨a1, a3, fun o ho j hj => ?_⟩
    rcases a4 o ho j hj with h | h
    · rw [hf] at h; cases h
    · exact h
  · obtain ⟨o, ho, j, hj, _, hn'⟩ := hB (Nat.le_trans (List.length_filter_le _ _) (by simp)) i hi (hf i) hn
    exact ⟨o, ho, j, hj, hn'⟩

theorem Lin.nodup {ops : Array Oper} {σ : List Nat} (l : Lin ops σ) : ∀ s1 i s2, σ = s1 ++ i :: s2 → i ∉ s1 ∧ i ∉ s2 := fun s1 i s2 e => by
  refine ⟨(l.ok s1 i s2 e).2.1, fun hm => ?_⟩
  obtain ⟨a, b, e2⟩ := List.append_of_mem hm
  exact (l.ok (s1 ++ i :: a) i b (by rw [e, e2]; simp)).2.1 (by simp)
theorem Lin.bef {ops : Array Oper} {σ : List Nat} (l : Lin ops σ) {s1 s2 : List Nat} {i j : Nat} (e : σ = s1 ++ i :: s2) (h : isBef ops j i = true) : j ∈ s1 := by
  obtain ⟨h1, _, h3⟩ := l.ok s1 i s2 e
  have ho := Array.getElem?_eq_getElem h1
  refine isBef_sound (X := fun j => j ∈ s1) (fun k o hk hX m hm => ?_) ho (h3 _ ho) h
  obtain ⟨a, b, e2⟩ := List.append_of_mem hX
  have := (l.ok a k (b ++ i :: s2) (by rw [e, e2]; simp)).2.2 o hk m hm
  rw [e2]; simp [this]

def pairsAny (f : Nat → Nat → Bool) : List Nat → Bool
  | [] => false
  | i :: r => r.any (f i) || pairsAny f r
/-- Ahead of, where the chain's operations come in the order c. -/
def befC (ops : Array Oper) (c : List Nat) (i j : Nat) : Bool := isBef ops i j || pairsAny (fun x y => (x == i || isBef ops i x) && (y == j || isBef ops y j)) c
theorem pairsAny_spec {f : Nat → Nat → Bool} {c : List Nat} (h : pairsAny f c = true) : ∃ a x b y d, c = a ++ x :: b ++ y :: d ∧ f x y = true := by
  induction c with
  | nil => cases h
  | cons i r ih =>
    simp only [pairsAny, Bool.or_eq_true] at h
    rcases h with h | h
    · obtain ⟨y, hy, hf⟩ := List.any_eq_true.1 h
      obtain ⟨b, d, e⟩ := List.append_of_mem hy
      exact ⟨[], i, b, y, d, by rw [e]; simp, hf⟩
    · obtain ⟨a, x, b, y, d, e, hf⟩ := ih h
      exact ⟨i :: a, x, b, y, d, by rw [e]; simp, hf⟩

theorem filter_split {p : Nat → Bool} {σ a d : List Nat} {y : Nat} (h : σ.filter p = a ++ y :: d) : ∃ u v, σ = u ++ y :: v ∧ u.filter p = a ∧ v.filter p = d := by
  induction σ generalizing a with
  | nil => simp at h
  | cons z σ ih =>
    rw [List.filter_cons] at h
    cases hz : p z with
    | true =>
      rw [hz] at h
      simp only [if_true] at h
      cases a with
      | nil =>
        simp at h
        exact ⟨[], σ, by simp [h.1], rfl, h.2⟩
      | cons w a =>
        simp at h
        obtain ⟨u, v, e1, e2, e3⟩ := ih h.2
        exact ⟨z :: u, v, by simp [e1], by rw [List.filter_cons, hz, if_pos rfl, e2, h.1], e3⟩
    | false =>
      rw [hz] at h
      simp at h
      obtain ⟨u, v, e1, e2, e3⟩ := ih h
      exact ⟨z :: u, v, by simp [e1], by simp [hz, e2], e3⟩

theorem Lin.befC {ops : Array Oper} {σ c : List Nat} (l : Lin ops σ) (hc : σ.filter c.contains = c) {s1 s2 : List Nat} {i j : Nat} (e : σ = s1 ++ i :: s2) (h : befC ops c j i = true) : j ∈ s1 := by
  simp only [Abs.befC, Bool.or_eq_true] at h
  rcases h with h | h
  · exact l.bef e h
  · obtain ⟨a, x, b, y, d, ec, hf⟩ := pairsAny_spec h
    simp only [Bool.and_eq_true, Bool.or_eq_true, beq_iff_eq] at hf
    rw [ec] at hc
    obtain ⟨u, v, e1, e2, _⟩ := filter_split hc
    obtain ⟨u1, u2, e3, _, _⟩ := filter_split (a := a) (y := x) (d := b) e2
    -- x stands in u1 ++ x :: u2 = u, y behind it
    have hju : j ∈ u := by
      rcases hf.1 with h | h
      · rw [e3, h]; simp
      · have := l.bef (s1 := u1) (s2 := u2 ++ y :: v) (by rw [e1, e3]; simp) h
        rw [e3]; simp [this]
    rcases hf.2 with h | h
    · subst h
      -- the same split
      have : s1 = u := by
        have hn1 := (l.nodup s1 y s2 e)
        have hn2 := (l.nodup u y v e1)
        have key : ∀ (p q r t : List Nat), p ++ y :: q = r ++ y :: t → y ∉ p → y ∉ r → p = r := by
          intro p
          induction p with
          | nil =>
            intro q r t h _ hr
            cases r with
            | nil => rfl
            | cons z r => simp at h; exact absurd (by simp [h.1]) hr
          | cons z p ih =>
            intro q r t h hp hr
            cases r with
            | nil => simp at h; exact absurd (by simp [h.1]) hp
            | cons z' r =>
              simp at h
              rw [h.1, ih q r t h.2 (fun hm => hp (by simp [hm])) (fun hm => hr (by simp [hm]))]
        exact key _ _ _ _ (e ▸ e1) hn1.1 hn2.1
      rw [this]; exact hju
    · have hy : y ∈ s1 := l.bef e h
      obtain ⟨p, q, e4⟩ := List.append_of_mem hy
      have e5 : σ = p ++ y :: (q ++ i :: s2) := by rw [e, e4]; simp
      have key : ∀ (p q r t : List Nat), p ++ y :: q = r ++ y :: t → y ∉ p → y ∉ r → p = r := by
        intro p
        induction p with
        | nil =>
          intro q r t h _ hr
          cases r with
          | nil => rfl
          | cons z r => simp at h; exact absurd (by simp [h.1]) hr
        | cons z p ih =>
          intro q r t h hp hr
          cases r with
          | nil => simp at h; exact absurd (by simp [h.1]) hp
          | cons z' r =>
            simp at h
            rw [h.1, ih q r t h.2 (fun hm => hp (by simp [hm])) (fun hm => hr (by simp [hm]))]
      have : p = u := key _ _ _ _ (e5 ▸ e1) (l.nodup _ _ _ e5).1 (l.nodup _ _ _ e1).1
      rw [e4, this]; simp [hju]

/-- As planOK, where the chain's operations come in the order c. -/
def planC (ops : Array Oper) (π c rd : List Nat) : Bool :=
  decide (π.length ≤ ops.size) && (List.range ops.size).all π.contains && π.all (fun i => decide (i < ops.size) && (((ops[i]?).map dirs).getD []).all (fun j => decide (j < ops.size) && j != i)) &&
  pairsOK (fun i j => i != j && (!conf ops i j || befC ops c i j) && (!(c.contains i && c.contains j) || befC ops c i j) && (!(rd.contains i && c.contains j) || befC ops c i j) && !(((ops[i]?).map dirs).getD []).contains j) π

structure PlanC (ops : Array Oper) (π ch rd : List Nat) : Prop where
  all : ∀ i, i < ops.size → i ∈ π
  lt : ∀ i ∈ π, i < ops.size
  edge : ∀ i ∈ π, ∀ (o : Oper), ops[i]? = some o → ∀ j ∈ dirs o, j < ops.size ∧ j ≠ i
  nd : pairsOK (fun i j => i != j) π = true
  pair : ∀ pre i post, π = pre ++ i :: post → ∀ j ∈ post, i ≠ j ∧ (conf ops i j = true → befC ops ch i j = true) ∧ (ch.contains i = true → ch.contains j = true → befC ops ch i j = true) ∧ (rd.contains i = true → ch.contains j = true → befC ops ch i j = true) ∧ ∀ (o : Oper), ops[i]? = some o → j ∉ dirs o
theorem planC_plan {ops : Array Oper} {π ch rd : List Nat} (hp : planC ops π ch rd = true) : PlanC ops π ch rd := by
  simp only [planC, Bool.and_eq_true] at hp
  obtain ⟨⟨⟨hlen, hall⟩, hlt⟩, hpairs⟩ := hp
  refine ⟨fun i hi => ?_, fun i hi => ?_, fun i hi o ho j hj => ?_, ?_, fun pre i post e j hj => ?_⟩
  · have := List.all_eq_true.1 hall i (by simpa using hi)
    simpa using this
  · have := List.all_eq_true.1 hlt i hi
    simp only [Bool.and_eq_true, decide_eq_true_eq] at this
    exact this.1
  · have := List.all_eq_true.1 hlt i hi
    simp only [Bool.and_eq_true, decide_eq_true_eq, ho, Option.map_some, Option.getD_some] at this
    have := List.all_eq_true.1 this.2 j hj
    simp only [Bool.and_eq_true, decide_eq_true_eq, bne_iff_ne] at this
    exact this
  · clear hall hlt hlen
    induction π with
    | nil => rfl
    | cons x l ih =>
      simp only [pairsOK, Bool.and_eq_true] at hpairs ⊢
      refine ⟨List.all_eq_true.2 fun j hj => ?_, ih hpairs.2⟩
      have := List.all_eq_true.1 hpairs.1 j hj
      simp only [Bool.and_eq_true] at this
      exact this.1.1.1.1
  · rw [e] at hpairs
    have := (pairsOK_split hpairs).2 j hj
    simp only [Bool.and_eq_true, Bool.or_eq_true, Bool.not_eq_true', bne_iff_ne, ne_eq] at this
    obtain ⟨⟨⟨⟨h1, h2⟩, h3⟩, h4⟩, h5⟩ := this
    refine ⟨h1, fun hc => h2.resolve_left (by rw [hc]; decide), fun a b => h3.resolve_left (by rw [a, b]; decide), fun a b => h4.resolve_left (by rw [a, b]; decide), fun o ho hm => ?_⟩
    rw [ho] at h5
    simp at h5
    exact h5 hm

theorem sched_run {P : Program} {E : Cx} {Q : Exit → Env → Heap → Prop} {L Lf : Env} {h hl : Heap} {hs : List Heap} {ops : Array Oper} {π ch rd σ : List Nat} (pl : PlanC ops π ch rd) (lin : Lin ops σ) (hco : σ.filter ch.contains = ch)
    (d : DR P ops E ch rd π π L [h] Lf (hl :: hs)) (hq : Q .normal Lf hl) {ι : List Inf} {I : Nat → Prop} {a : Act} {w : World} (r : Rel E L h ι I a w) : wpOps P ops (lift E Q) σ a w := by
  obtain ⟨val, hLf, ⟨nw, hnw, hnwl⟩, hkn⟩ := d.spec pl.nd (by simp)
  have hrev : (hl :: hs).length = cnt ch π + 1 := by rw [hnw]; simp [hnwl]
  have hlast : (hl :: hs).reverse[cnt ch π]? = some hl := by
    rw [List.getElem?_reverse (by omega)]
    have : (hl :: hs).length - 1 - cnt ch π = 0 := by omega
    rw [this]; rfl
  have hfirst : (hl :: hs).reverse[0]? = some h := by rw [hnw]; simp
  obtain ⟨H, hH⟩ : ∃ H, H = (hl :: hs).reverse := ⟨_, rfl⟩
  rw [← hH] at hkn hlast hfirst
  simp only [List.length_singleton, Nat.sub_self, Nat.zero_add] at hkn
  have hfull : ∀ i ∈ π, i ∈ σ := by
    have hallX : ∀ (n : Nat) (pre post : List Nat), pre.length = n → π = pre ++ post → ∀ i ∈ pre, i ∈ σ := by
      intro n
      induction n with
      | zero => intro pre post hl0 _ i hi; rw [List.eq_nil_of_length_eq_zero hl0] at hi; simp at hi
      | succ n ih =>
        intro pre' post hl0 e i hi
        obtain ⟨pre, x, rfl⟩ : ∃ pre x, pre' = pre ++ [x] := by
          rcases List.eq_nil_or_concat pre' with h0 | ⟨l, x, h0⟩
          · subst h0; simp at hl0
          · exact ⟨l, x, by simpa using h0⟩
        have e' : π = pre ++ x :: post := by rw [e]; simp
        have hpre := ih pre (x :: post) (by simpa using hl0) e'
        rcases List.mem_append.1 hi with hi | hi
        · exact hpre i hi
        · simp at hi
          subst hi
          have hmem : i ∈ π := by rw [e']; simp
          apply Classical.byContradiction
          intro hni
          obtain ⟨o, ho, j, hj, hnj⟩ := lin.full i (pl.lt i hmem) hni
          obtain ⟨j1, j2⟩ := pl.edge i hmem _ ho j hj
          have hjm := pl.all j j1
          rw [e'] at hjm
          rcases List.mem_append.1 hjm with hjm | hjm
          · exact hnj (hpre j hjm)
          · rcases List.mem_cons.1 hjm with hjm | hjm
            · exact absurd hjm j2
            · exact absurd hj ((pl.pair pre i post e' j hjm).2.2.2.2 _ ho)
    exact hallX π.length π [] rfl (by simp)
  have key : ∀ (s2 s1 : List Nat) (a : Act) (w : World) (ι : List Inf) (I : Nat → Prop) (hc : Heap), σ = s1 ++ s2 →
      H[cnt ch (π.filter fun i => s1.contains i)]? = some hc →
      Rel E (runEnv ops val (π.filter fun i => s1.contains i) L) hc ι I a w → wpOps P ops (lift E Q) s2 a w := by
    intro s2
    induction s2 with
    | nil =>
      intro s1 a w ι I hc es hcH r
      rw [List.append_nil] at es
      subst es
      have e : π.filter (fun i => σ.contains i) = π := List.filter_eq_self.2 fun i hi => by simpa using hfull i hi
      rw [e] at hcH r
      rw [hlast] at hcH
      cases hcH
      exact ⟨Lf, hl, ι, I, hq, by rw [hLf]; exact r⟩
    | cons i s2 ih =>
      intro s1 a w ι I hc es hcH r
      obtain ⟨hlt, hni, _⟩ := lin.ok s1 i s2 es
      have hli : s1.contains i = false := by simpa using hni
      have ho := Array.getElem?_eq_getElem hlt
      have hmem := pl.all i hlt
      obtain ⟨pre, post, e⟩ := List.append_of_mem hmem
      have befX : ∀ {j}, befC ops ch j i = true → s1.contains j = true := fun hb => by simpa using lin.befC hco es hb
      have noB : ∀ {j}, s1.contains j = true → befC ops ch i j = true → False := fun {j} hj hb => by
        have hj : j ∈ s1 := by simpa using hj
        obtain ⟨p, q, e2⟩ := List.append_of_mem hj
        have := lin.befC hco (s1 := p) (s2 := q ++ i :: s2) (by rw [es, e2]; simp) hb
        exact hni (by rw [e2]; simp [this])
      have pre_i : ∀ k ∈ pre, k ≠ i ∧ (conf ops k i = true → befC ops ch k i = true) ∧ (ch.contains k = true → ch.contains i = true → befC ops ch k i = true) := fun k hk => by
        obtain ⟨p1, p2, e2⟩ := List.append_of_mem hk
        have := pl.pair p1 k (p2 ++ i :: post) (by rw [e, e2]; simp) i (by simp)
        exact ⟨this.1, this.2.1, this.2.2.1⟩
      have post_i := pl.pair pre i post e
      -- the filters
      have fX : π.filter (fun i => s1.contains i) = pre.filter (fun i => s1.contains i) ++ post.filter (fun i => s1.contains i) := by
        rw [e, List.filter_append, List.filter_cons, hli]; simp
      have getS : ∀ j, (s1 ++ [i]).contains j = if j = i then true else s1.contains j := fun j => by
        by_cases ej : j = i
        · subst ej; simp
        · rw [if_neg ej, Bool.eq_iff_iff]; simp [ej]
      have fX' : π.filter (fun j => (s1 ++ [i]).contains j) = pre.filter (fun i => s1.contains i) ++ i :: post.filter (fun i => s1.contains i) := by
        rw [e, List.filter_append, List.filter_cons]
        have a1 : pre.filter (fun j => (s1 ++ [i]).contains j) = pre.filter (fun i => s1.contains i) := List.filter_congr fun k hk => by rw [getS, if_neg (pre_i k hk).1]
        have a2 : post.filter (fun j => (s1 ++ [i]).contains j) = post.filter (fun i => s1.contains i) := List.filter_congr fun k hk => by rw [getS, if_neg (fun x => (post_i k hk).1 x.symm)]
        rw [a1, a2, getS, if_pos rfl]
        simp
      have cX : cnt ch (π.filter fun i => s1.contains i) = cnt ch (pre.filter fun i => s1.contains i) + cnt ch (post.filter fun i => s1.contains i) := by rw [fX, cnt_app]
      obtain ⟨o, ho', hk⟩ := hkn pre i post e
      have eo : o = ops[i] := by rw [ho] at ho'; cases ho'; rfl
      -- the operation sees what it saw
      have hsel : Sub (sel (runEnv ops val pre L) (o.looksAt ops)) (runEnv ops val (π.filter fun i => s1.contains i) L) := sel_sub fun t ht => by
        refine runEnv_same ?_
        rw [fX, List.filter_append]
        have b1 : (post.filter fun i => s1.contains i).filter (writes ops t) = [] := filter_none fun j hj hXj => by
          cases hw : writes ops t j with
          | false => rfl
          | true =>
            exfalso
            have hjl := pl.lt j (by rw [e]; simp [hj])
            have hoj := Array.getElem?_eq_getElem hjl
            have hdj : ops[j].dst = some t := by simpa [writes, gslot, hoj] using hw
            cases hcf : conf ops i j with
            | true => exact noB hXj ((post_i j hj).2.1 hcf)
            | false => exact (apart_conf ho' hoj hcf).2 t hdj ht
        have b2 : (pre.filter fun i => s1.contains i).filter (writes ops t) = pre.filter (writes ops t) := by
          rw [List.filter_filter]
          refine List.filter_congr fun k hk => ?_
          cases hw : writes ops t k with
          | false => simp
          | true =>
            simp only [Bool.true_and]
            have hkl := pl.lt k (by rw [e]; simp [hk])
            have hok := Array.getElem?_eq_getElem hkl
            have hdk : ops[k].dst = some t := by simpa [writes, gslot, hok] using hw
            cases hcf : conf ops k i with
            | true => exact befX ((pre_i k hk).2.1 hcf)
            | false => exact absurd ht ((apart_conf hok ho' hcf).1 t hdk).1
        rw [b1, b2, List.append_nil]
      -- what stands behind it
      have hsub : Sub (runEnv ops val (π.filter fun j => (s1 ++ [i]).contains j) L) (bindD o.dst (val i) (runEnv ops val (π.filter fun i => s1.contains i) L)) := fun t x hx => by
        rw [fX'] at hx
        have hgs : gslot ops i = o.dst := by simp [gslot, ho']
        by_cases hd : o.dst = some t
        · rw [hd]
          simp only [bindD, List.lookup_cons, beq_self_eq_true]
          rw [runEnv_app] at hx
          simp only [runEnv] at hx
          rw [hgs, hd] at hx
          have b1 : (post.filter fun i => s1.contains i).filter (writes ops t) = [] := filter_none fun j hj hXj => by
            cases hw : writes ops t j with
            | false => rfl
            | true =>
              exfalso
              have hjl := pl.lt j (by rw [e]; simp [hj])
              have hoj := Array.getElem?_eq_getElem hjl
              have hdj : ops[j].dst = some t := by simpa [writes, gslot, hoj] using hw
              cases hcf : conf ops i j with
              | true => exact noB hXj ((post_i j hj).2.1 hcf)
              | false => exact ((apart_conf ho' hoj hcf).1 t hd).2 hdj
          rw [runEnv_lookup ops val t _ _ _ rfl, b1] at hx
          simpa [runEnv, bindD] using hx
        · have hw : writes ops t i = false := by simp [writes, hgs, hd]
          have e1 : (runEnv ops val (pre.filter (fun i => s1.contains i) ++ i :: post.filter (fun i => s1.contains i)) L).lookup t = (runEnv ops val (π.filter fun i => s1.contains i) L).lookup t := by
            refine runEnv_same ?_
            rw [fX, List.filter_append, List.filter_append, List.filter_cons, hw]
            simp
          rw [e1] at hx
          cases hdd : o.dst with
          | none => exact hx
          | some d =>
            simp only [bindD, List.lookup_cons]
            have : (t == d) = false := by simpa using fun x => hd (by rw [hdd, x])
            rw [this]; exact hx
      rw [wpOps_cons]
      have next : ∀ hc', H[cnt ch (π.filter fun j => (s1 ++ [i]).contains j)]? = some hc' → OT P ops E o (sel (runEnv ops val pre L) (o.looksAt ops)) (val i) hc hc' → wpOp P ops (lift E Q) i (wpOps P ops (lift E Q) s2) a w := by
        intro hc' hcH' hot
        exact hot.sound hsel ho' r fun ι' I' a' w' r' => ih (s1 ++ [i]) a' w' ι' I' hc' (by rw [es]; simp) hcH' (r'.weaken hsub)
      rcases hk with ⟨hch, h1, h2, g1, g2, hot⟩ | ⟨hch, hrd, hot⟩ | ⟨hch, hot⟩
      · -- a chain operation
        have c1 : cnt ch (pre.filter fun i => s1.contains i) = cnt ch pre := cnt_all fun k hk hkc => befX ((pre_i k hk).2.2 hkc hch)
        have c2 : cnt ch (post.filter fun i => s1.contains i) = 0 := cnt_zero fun j hj hXj => by
          cases hcj : ch.contains j with
          | false => rfl
          | true => exact (noB hXj ((post_i j hj).2.2.1 hch hcj)).elim
        have ehc : h1 = hc := by rw [cX, c1, c2, Nat.add_zero, g1] at hcH; cases hcH; rfl
        subst ehc
        refine next h2 ?_ hot
        rw [fX', cnt_app, cnt_t hch, c1, c2]
        exact g2
      · -- a reader
        have c2 : cnt ch (post.filter fun i => s1.contains i) = 0 := cnt_zero fun j hj hXj => by
          cases hcj : ch.contains j with
          | false => rfl
          | true => exact (noB hXj ((post_i j hj).2.2.2.1 hrd hcj)).elim
        have c1 : cnt ch (pre.filter fun i => s1.contains i) ≤ cnt ch pre := by
          have := cnt_mono (ch := ch) (l := pre) (p := fun i => s1.contains i) (q := fun _ => true) (fun _ _ _ => rfl)
          rwa [List.filter_eq_self.2 (fun _ _ => rfl)] at this
        have c0 : cnt ch (π.filter fun j => isBef ops j i) ≤ cnt ch (π.filter fun i => s1.contains i) := cnt_mono fun j _ hb => befX (by simp only [Abs.befC, hb, Bool.true_or])
        refine next hc ?_ (hot _ hc c0 (by rw [cX, c2]; omega) hcH)
        rw [fX', cnt_app, cnt_f hch, ← cX]
        exact hcH
      · refine next hc ?_ (hot hc)
        rw [fX', cnt_app, cnt_f hch, ← cX]
        exact hcH
  have e0 : π.filter (fun i => ([] : List Nat).contains i) = [] := by simp
  exact key σ [] a w ι I h rfl (by rw [e0]; exact hfirst) (by rw [e0]; exact r)

theorem PlanC.cover {ops : Array Oper} {π ch rd σ : List Nat} (pl : PlanC ops π ch rd) (lin : Lin ops σ) : ∀ i, i < ops.size → i ∈ σ := by
  have hallX : ∀ (n : Nat) (pre post : List Nat), pre.length = n → π = pre ++ post → ∀ i ∈ pre, i ∈ σ := by
    intro n
    induction n with
    | zero => intro pre post hl0 _ i hi; rw [List.eq_nil_of_length_eq_zero hl0] at hi; simp at hi
    | succ n ih =>
      intro pre' post hl0 e i hi
      obtain ⟨pre, x, rfl⟩ : ∃ pre x, pre' = pre ++ [x] := by
        rcases List.eq_nil_or_concat pre' with h0 | ⟨l, x, h0⟩
        · subst h0; simp at hl0
        · exact ⟨l, x, by simpa using h0⟩
      have e' : π = pre ++ x :: post := by rw [e]; simp
      have hpre := ih pre (x :: post) (by simpa using hl0) e'
      rcases List.mem_append.1 hi with hi | hi
      · exact hpre i hi
      · simp at hi
        subst hi
        have hmem : i ∈ π := by rw [e']; simp
        apply Classical.byContradiction
        intro hni
        obtain ⟨o, ho, j, hj, hnj⟩ := lin.full i (pl.lt i hmem) hni
        obtain ⟨j1, j2⟩ := pl.edge i hmem _ ho j hj
        have hjm := pl.all j j1
        rw [e'] at hjm
        rcases List.mem_append.1 hjm with hjm | hjm
        · exact hnj (hpre j hjm)
        · rcases List.mem_cons.1 hjm with hjm | hjm
          · exact absurd hjm j2
          · exact absurd hj ((pl.pair pre i post e' j hjm).2.2.2.2 _ ho)
  exact fun i hi => hallX π.length π [] rfl (by simp) i (pl.all i hi)

/-- The orders of some operations that the edges allow. -/
def exts (ops : Array Oper) : Nat → List Nat → List (List Nat)
  | 0, _ => [[]]
  | n + 1, cs => cs.flatMap fun i => if cs.any (fun j => isBef ops j i) then [] else (exts ops n (cs.filter (· != i))).map (i :: ·)
theorem exts_mem {ops : Array Oper} {σ : List Nat} (lin : Lin ops σ) : ∀ (n : Nat) (cs : List Nat), cs.length = n → cs.Nodup → (∀ i ∈ cs, i ∈ σ) → σ.filter cs.contains ∈ exts ops n cs := by
  intro n
  induction n with
  | zero =>
    intro cs hl _ _
    rw [List.eq_nil_of_length_eq_zero hl]
    simp [exts]
  | succ n ih =>
    intro cs hl hnd hin
    cases hf : σ.filter cs.contains with
    | nil =>
      exfalso
      cases cs with
      | nil => simp at hl
      | cons c cs =>
        have : c ∈ σ.filter (c :: cs).contains := List.mem_filter.2 ⟨hin c (by simp), by simp⟩
        rw [hf] at this
        cases this
    | cons i rest =>
      obtain ⟨u, v, e1, e2, e3⟩ := filter_split (a := []) (y := i) (d := rest) hf
      have hmem : i ∈ σ.filter cs.contains := by rw [hf]; simp
      have hic : i ∈ cs := by simpa using (List.mem_filter.1 hmem).2
      have hnb : cs.any (fun j => isBef ops j i) = false := by
        rw [List.any_eq_false]
        intro j hj hb
        have := lin.bef e1 hb
        have : j ∈ u.filter cs.contains := List.mem_filter.2 ⟨this, by simpa using hj⟩
        rw [e2] at this
        cases this
      simp only [exts, List.mem_flatMap]
      refine ⟨i, hic, ?_⟩
      rw [hnb]
      simp only [Bool.false_eq_true, if_false, List.mem_map]
      refine ⟨rest, ?_, rfl⟩
      have er : rest = σ.filter (cs.filter (· != i)).contains := by
        have hn := lin.nodup u i v e1
        have hc : ∀ j, (cs.filter (· != i)).contains j = (cs.contains j && j != i) := fun j => by
          rw [Bool.eq_iff_iff]; simp
        rw [List.filter_congr (fun j _ => hc j), e1, List.filter_append, List.filter_cons]
        simp only [bne_self_eq_false, Bool.and_false, Bool.false_eq_true, if_false]
        have a1 : u.filter (fun j => cs.contains j && j != i) = u.filter cs.contains := List.filter_congr fun j hj => by
          have : j ≠ i := fun e => hn.1 (e ▸ hj)
          simp [this]
        have a2 : v.filter (fun j => cs.contains j && j != i) = v.filter cs.contains := List.filter_congr fun j hj => by
          have : j ≠ i := fun e => hn.2 (e ▸ hj)
          simp [this]
        rw [a1, a2, e2, e3]; rfl
      rw [er]
      refine ih _ ?_ (hnd.filter _) fun j hj => hin j (List.mem_filter.1 hj).1
      have : (cs.filter (· != i)).length + 1 = cs.length := by
        have := hnd.erase_eq_filter i
        rw [← this, List.length_erase_of_mem hic]
        have := List.length_pos_of_mem hic
        omega
      omega

def AllL {α : Type} (f : α → Prop) : List α → Prop
  | [] => True
  | x :: r => f x ∧ AllL f r
theorem AllL.get {α : Type} {f : α → Prop} {l : List α} (h : AllL f l) {x : α} (hx : x ∈ l) : f x := by
  induction l with
  | nil => cases hx
  | cons y r ih =>
    rcases List.mem_cons.1 hx with e | e
    · subst e; exact h.1
    · exact ih h.2 e

def plansOK (ops : Array Oper) (cs : List Nat) (plans : List (List Nat × List Nat × List Nat)) : Bool :=
  plans.all (fun p => planC ops p.1 p.2.1 p.2.2 && p.2.1.all cs.contains && cs.all p.2.1.contains) && (exts ops cs.length cs).all (fun c => plans.any fun p => p.2.1 == c) && cs.all (fun i => decide (i < ops.size)) && decide cs.Nodup && !plans.isEmpty

/-- A region whose chain's operations have more than one order: a walk for each order. Each plan: the order, the chain's operations in it, the readers. -/
theorem aw_drawnL {P : Program} {E : Cx} {Q : Exit → Env → Heap → Prop} {L : Env} {h : Heap} {id : Nat} {ops : Array Oper} (hm : P.follows .mixedOrders = true) (cs : List Nat) (plans : List (List Nat × List Nat × List Nat)) (hp : plansOK ops cs plans = true)
    (d : AllL (fun p => dw P ops E p.2.1 p.2.2 p.1 p.1 L [h] (Q .normal)) plans) : aw P (.region id ops true) E Q L h := by
  refine ⟨fun ι I a w r => ?_⟩
  simp only [plansOK, Bool.and_eq_true, List.all_eq_true, decide_eq_true_eq] at hp
  obtain ⟨⟨⟨⟨h1, h2⟩, h3⟩, h4⟩, h5⟩ := hp
  refine wp_region_draw fun t => ?_
  simp only [Region.schedule, hm, Bool.true_or, if_true]
  have lin := linearise_lin ops t
  obtain ⟨p0, hp0⟩ : ∃ p0, p0 ∈ plans := by
    cases plans with
    | nil => simp at h5
    | cons x _ => exact ⟨x, by simp⟩
  have cov := (planC_plan (h1 p0 hp0).1.1).cover lin
  have hext := exts_mem lin cs.length cs rfl h4 fun i hi => cov i (h3 i hi)
  obtain ⟨p, hpm, hpc⟩ := List.any_eq_true.1 (h2 _ hext)
  have hpc : p.2.1 = (Region.linearise .any ops t).filter cs.contains := by simpa using hpc
  obtain ⟨⟨q1, q2⟩, q3⟩ := h1 p hpm
  have hsame : (Region.linearise .any ops t).filter p.2.1.contains = p.2.1 := by
    have : (Region.linearise .any ops t).filter p.2.1.contains = (Region.linearise .any ops t).filter cs.contains := List.filter_congr fun j _ => by
      rw [Bool.eq_iff_iff]
      refine ⟨fun hh => ?_, fun hh => ?_⟩
      · exact q2 j (by simpa using hh)
      · exact q3 j (by simpa using hh)
    rw [this, ← hpc]
  obtain ⟨Lf, hl, hs', dr, k⟩ := (d.get hpm).get
  exact sched_run (planC_plan q1) lin hsame dr k (r.same rfl rfl rfl rfl)
end Go.Proofs.Ytagnfckihdlhpaa.Abs

/-
  Regions that draw their order, with more than one order of what changes memory: for any way to tell of states.
-/
namespace Go.Proofs.Ytagnfckihdlhpaa.Draw
open Go.RowKit
open Abs (gslot cnt cnt_f cnt_t cnt_app cnt_mono cnt_zero cnt_all isBef conf dirs writes pairsOK apart_conf filter_none PlanC Lin befC planC_plan linearise_lin plansOK exts_mem)
variable {β γ : Type}
theorem sched_run [Inhabited β] {P : Program} {ops : Array Oper} {S : Sys P ops β γ} {Q : Exit → Act → World → Prop} {L Lf : List (Nat × β)} {h hl : γ} {hs : List γ} {π ch rd σ : List Nat} (pl : PlanC ops π ch rd) (lin : Lin ops σ) (hco : σ.filter ch.contains = ch)
    (d : DR S ch rd π π L [h] Lf (hl :: hs)) (hq : ∀ a w, S.Rel Lf hl a w → Q .normal a w) {a : Act} {w : World} (r : S.Rel L h a w) : wpOps P ops Q σ a w := by
  obtain ⟨val, hLf, ⟨nw, hnw, hnwl⟩, hkn⟩ := d.spec pl.nd (by simp)
  have hrev : (hl :: hs).length = cnt ch π + 1 := by rw [hnw]; simp [hnwl]
  have hlast : (hl :: hs).reverse[cnt ch π]? = some hl := by
    rw [List.getElem?_reverse (by omega)]
    have : (hl :: hs).length - 1 - cnt ch π = 0 := by omega
    rw [this]; rfl
  have hfirst : (hl :: hs).reverse[0]? = some h := by rw [hnw]; simp
  obtain ⟨H, hH⟩ : ∃ H, H = (hl :: hs).reverse := ⟨_, rfl⟩
  rw [← hH] at hkn hlast hfirst
  simp only [List.length_singleton, Nat.sub_self, Nat.zero_add] at hkn
  have hfull : ∀ i ∈ π, i ∈ σ := by
    have hallX : ∀ (n : Nat) (pre post : List Nat), pre.length = n → π = pre ++ post → ∀ i ∈ pre, i ∈ σ := by
      intro n
      induction n with
      | zero => intro pre post hl0 _ i hi; rw [List.eq_nil_of_length_eq_zero hl0] at hi; simp at hi
      | succ n ih =>
        intro pre' post hl0 e i hi
        obtain ⟨pre, x, rfl⟩ : ∃ pre x, pre' = pre ++ [x] := by
          rcases List.eq_nil_or_concat pre' with h0 | ⟨l, x, h0⟩
          · subst h0; simp at hl0
          · exact ⟨l, x, by simpa using h0⟩
        have e' : π = pre ++ x :: post := by rw [e]; simp
        have hpre := ih pre (x :: post) (by simpa using hl0) e'
        rcases List.mem_append.1 hi with hi | hi
        · exact hpre i hi
        · simp at hi
          subst hi
          have hmem : i ∈ π := by rw [e']; simp
          apply Classical.byContradiction
          intro hni
          obtain ⟨o, ho, j, hj, hnj⟩ := lin.full i (pl.lt i hmem) hni
          obtain ⟨j1, j2⟩ := pl.edge i hmem _ ho j hj
          have hjm := pl.all j j1
          rw [e'] at hjm
          rcases List.mem_append.1 hjm with hjm | hjm
          · exact hnj (hpre j hjm)
          · rcases List.mem_cons.1 hjm with hjm | hjm
            · exact absurd hjm j2
            · exact absurd hj ((pl.pair pre i post e' j hjm).2.2.2.2 _ ho)
    exact hallX π.length π [] rfl (by simp)
  have key : ∀ (s2 s1 : List Nat) (a : Act) (w : World) (hc : γ), σ = s1 ++ s2 →
      H[cnt ch (π.filter fun i => s1.contains i)]? = some hc →
      S.Rel (runEnv ops val (π.filter fun i => s1.contains i) L) hc a w → wpOps P ops Q s2 a w := by
    intro s2
    induction s2 with
    | nil =>
      intro s1 a w hc es hcH r
      rw [List.append_nil] at es
      subst es
      have e : π.filter (fun i => σ.contains i) = π := List.filter_eq_self.2 fun i hi => by simpa using hfull i hi
      rw [e] at hcH r
      rw [hlast] at hcH
      cases hcH
      exact hq _ _ (by rw [hLf]; exact r)
    | cons i s2 ih =>
      intro s1 a w hc es hcH r
      obtain ⟨hlt, hni, _⟩ := lin.ok s1 i s2 es
      have hli : s1.contains i = false := by simpa using hni
      have ho := Array.getElem?_eq_getElem hlt
      have hmem := pl.all i hlt
      obtain ⟨pre, post, e⟩ := List.append_of_mem hmem
      have befX : ∀ {j}, befC ops ch j i = true → s1.contains j = true := fun hb => by simpa using lin.befC hco es hb
      have noB : ∀ {j}, s1.contains j = true → befC ops ch i j = true → False := fun {j} hj hb => by
        have hj : j ∈ s1 := by simpa using hj
        obtain ⟨p, q, e2⟩ := List.append_of_mem hj
        have := lin.befC hco (s1 := p) (s2 := q ++ i :: s2) (by rw [es, e2]; simp) hb
        exact hni (by rw [e2]; simp [this])
      have pre_i : ∀ k ∈ pre, k ≠ i ∧ (conf ops k i = true → befC ops ch k i = true) ∧ (ch.contains k = true → ch.contains i = true → befC ops ch k i = true) := fun k hk => by
        obtain ⟨p1, p2, e2⟩ := List.append_of_mem hk
        have := pl.pair p1 k (p2 ++ i :: post) (by rw [e, e2]; simp) i (by simp)
        exact ⟨this.1, this.2.1, this.2.2.1⟩
      have post_i := pl.pair pre i post e
      -- the filters
      have fX : π.filter (fun i => s1.contains i) = pre.filter (fun i => s1.contains i) ++ post.filter (fun i => s1.contains i) := by
        rw [e, List.filter_append, List.filter_cons, hli]; simp
      have getS : ∀ j, (s1 ++ [i]).contains j = if j = i then true else s1.contains j := fun j => by
        by_cases ej : j = i
        · subst ej; simp
        · rw [if_neg ej, Bool.eq_iff_iff]; simp [ej]
      have fX' : π.filter (fun j => (s1 ++ [i]).contains j) = pre.filter (fun i => s1.contains i) ++ i :: post.filter (fun i => s1.contains i) := by
        rw [e, List.filter_append, List.filter_cons]
        have a1 : pre.filter (fun j => (s1 ++ [i]).contains j) = pre.filter (fun i => s1.contains i) := List.filter_congr fun k hk => by rw [getS, if_neg (pre_i k hk).1]
        have a2 : post.filter (fun j => (s1 ++ [i]).contains j) = post.filter (fun i => s1.contains i) := List.filter_congr fun k hk => by rw [getS, if_neg (fun x => (post_i k hk).1 x.symm)]
        rw [a1, a2, getS, if_pos rfl]
        simp
      have cX : cnt ch (π.filter fun i => s1.contains i) = cnt ch (pre.filter fun i => s1.contains i) + cnt ch (post.filter fun i => s1.contains i) := by rw [fX, cnt_app]
      obtain ⟨o, ho', hk⟩ := hkn pre i post e
      have eo : o = ops[i] := by rw [ho] at ho'; cases ho'; rfl
      -- the operation sees what it saw
      have hsel : Sub (sel (runEnv ops val pre L) (o.looksAt ops)) (runEnv ops val (π.filter fun i => s1.contains i) L) := sel_sub fun t ht => by
        refine runEnv_same ?_
        rw [fX, List.filter_append]
        have b1 : (post.filter fun i => s1.contains i).filter (writes ops t) = [] := filter_none fun j hj hXj => by
          cases hw : writes ops t j with
          | false => rfl
          | true =>
            exfalso
            have hjl := pl.lt j (by rw [e]; simp [hj])
            have hoj := Array.getElem?_eq_getElem hjl
            have hdj : ops[j].dst = some t := by simpa [writes, gslot, hoj] using hw
            cases hcf : conf ops i j with
            | true => exact noB hXj ((post_i j hj).2.1 hcf)
            | false => exact (apart_conf ho' hoj hcf).2 t hdj ht
        have b2 : (pre.filter fun i => s1.contains i).filter (writes ops t) = pre.filter (writes ops t) := by
          rw [List.filter_filter]
          refine List.filter_congr fun k hk => ?_
          cases hw : writes ops t k with
          | false => simp
          | true =>
            simp only [Bool.true_and]
            have hkl := pl.lt k (by rw [e]; simp [hk])
            have hok := Array.getElem?_eq_getElem hkl
            have hdk : ops[k].dst = some t := by simpa [writes, gslot, hok] using hw
            cases hcf : conf ops k i with
            | true => exact befX ((pre_i k hk).2.1 hcf)
            | false => exact absurd ht ((apart_conf hok ho' hcf).1 t hdk).1
        rw [b1, b2, List.append_nil]
      -- what stands behind it
      have hsub : Sub (runEnv ops val (π.filter fun j => (s1 ++ [i]).contains j) L) (bindD o.dst (val i) (runEnv ops val (π.filter fun i => s1.contains i) L)) := fun t x hx => by
        rw [fX'] at hx
        have hgs : gslot ops i = o.dst := by simp [gslot, ho']
        by_cases hd : o.dst = some t
        · rw [hd]
          simp only [bindD, List.lookup_cons, beq_self_eq_true]
          rw [runEnv_app] at hx
          simp only [runEnv] at hx
          rw [hgs, hd] at hx
          have b1 : (post.filter fun i => s1.contains i).filter (writes ops t) = [] := filter_none fun j hj hXj => by
            cases hw : writes ops t j with
            | false => rfl
            | true =>
              exfalso
              have hjl := pl.lt j (by rw [e]; simp [hj])
              have hoj := Array.getElem?_eq_getElem hjl
              have hdj : ops[j].dst = some t := by simpa [writes, gslot, hoj] using hw
              cases hcf : conf ops i j with
              | true => exact noB hXj ((post_i j hj).2.1 hcf)
              | false => exact ((apart_conf ho' hoj hcf).1 t hd).2 hdj
          rw [runEnv_lookup ops val t _ _ _ rfl, b1] at hx
          simpa [runEnv, bindD] using hx
        · have hw : writes ops t i = false := by simp [writes, hgs, hd]
          have e1 : (runEnv ops val (pre.filter (fun i => s1.contains i) ++ i :: post.filter (fun i => s1.contains i)) L).lookup t = (runEnv ops val (π.filter fun i => s1.contains i) L).lookup t := by
            refine runEnv_same ?_
            rw [fX, List.filter_append, List.filter_append, List.filter_cons, hw]
            simp
          rw [e1] at hx
          cases hdd : o.dst with
          | none => exact hx
          | some d =>
            simp only [bindD, List.lookup_cons]
            have : (t == d) = false := by simpa using fun x => hd (by rw [hdd, x])
            rw [this]; exact hx
      rw [wpOps_cons]
      have next : ∀ hc', H[cnt ch (π.filter fun j => (s1 ++ [i]).contains j)]? = some hc' → S.OT o (sel (runEnv ops val pre L) (o.looksAt ops)) (val i) hc hc' → wpOp P ops Q i (wpOps P ops Q s2) a w := by
        intro hc' hcH' hot
        exact S.sound hot hsel ho' r fun a' w' r' => ih (s1 ++ [i]) a' w' hc' (by rw [es]; simp) hcH' (S.weaken r' hsub)
      rcases hk with ⟨hch, h1, h2, g1, g2, hot⟩ | ⟨hch, hrd, hot⟩ | ⟨hch, hot⟩
      · -- a chain operation
        have c1 : cnt ch (pre.filter fun i => s1.contains i) = cnt ch pre := cnt_all fun k hk hkc => befX ((pre_i k hk).2.2 hkc hch)
        have c2 : cnt ch (post.filter fun i => s1.contains i) = 0 := cnt_zero fun j hj hXj => by
          cases hcj : ch.contains j with
          | false => rfl
          | true => exact (noB hXj ((post_i j hj).2.2.1 hch hcj)).elim
        have ehc : h1 = hc := by rw [cX, c1, c2, Nat.add_zero, g1] at hcH; cases hcH; rfl
        subst ehc
        refine next h2 ?_ hot
        rw [fX', cnt_app, cnt_t hch, c1, c2]
        exact g2
      · -- a reader
        have c2 : cnt ch (post.filter fun i => s1.contains i) = 0 := cnt_zero fun j hj hXj => by
          cases hcj : ch.contains j with
          | false => rfl
          | true => exact (noB hXj ((post_i j hj).2.2.2.1 hrd hcj)).elim
        have c1 : cnt ch (pre.filter fun i => s1.contains i) ≤ cnt ch pre := by
          have := cnt_mono (ch := ch) (l := pre) (p := fun i => s1.contains i) (q := fun _ => true) (fun _ _ _ => rfl)
          rwa [List.filter_eq_self.2 (fun _ _ => rfl)] at this
        have c0 : cnt ch (π.filter fun j => isBef ops j i) ≤ cnt ch (π.filter fun i => s1.contains i) := cnt_mono fun j _ hb => befX (by simp only [Abs.befC, hb, Bool.true_or])
        refine next hc ?_ (hot _ hc c0 (by rw [cX, c2]; omega) hcH)
        rw [fX', cnt_app, cnt_f hch, ← cX]
        exact hcH
      · refine next hc ?_ (hot hc)
        rw [fX', cnt_app, cnt_f hch, ← cX]
        exact hcH
  have e0 : π.filter (fun i => ([] : List Nat).contains i) = [] := by simp
  exact key σ [] a w h rfl (by rw [e0]; exact hfirst) (by rw [e0]; exact r)

theorem drawL [Inhabited β] {P : Program} {ops : Array Oper} {S : Sys P ops β γ} {Q : Exit → Act → World → Prop} {L : List (Nat × β)} {h : γ} {id : Nat} (hm : P.follows .mixedOrders = true) (cs : List Nat) (plans : List (List Nat × List Nat × List Nat)) (hp : plansOK ops cs plans = true)
    (d : ∀ p ∈ plans, ∃ Lf hl hs, DR S p.2.1 p.2.2 p.1 p.1 L [h] Lf (hl :: hs) ∧ ∀ a w, S.Rel Lf hl a w → Q .normal a w) {a : Act} {w : World} (r : S.Rel L h a w) : (Code.region id ops true).wp P Q a w := by
  simp only [plansOK, Bool.and_eq_true, List.all_eq_true, decide_eq_true_eq] at hp
  obtain ⟨⟨⟨⟨h1, h2⟩, h3⟩, h4⟩, h5⟩ := hp
  refine wp_region_draw fun t => ?_
  simp only [Region.schedule, hm, Bool.true_or, if_true]
  have lin := linearise_lin ops t
  obtain ⟨p0, hp0⟩ : ∃ p0, p0 ∈ plans := by
    cases plans with
    | nil => simp at h5
    | cons x _ => exact ⟨x, by simp⟩
  have cov := (planC_plan (h1 p0 hp0).1.1).cover lin
  have hext := exts_mem lin cs.length cs rfl h4 fun i hi => cov i (h3 i hi)
  obtain ⟨p, hpm, hpc⟩ := List.any_eq_true.1 (h2 _ hext)
  have hpc : p.2.1 = (Region.linearise .any ops t).filter cs.contains := by simpa using hpc
  obtain ⟨⟨q1, q2⟩, q3⟩ := h1 p hpm
  have hsame : (Region.linearise .any ops t).filter p.2.1.contains = p.2.1 := by
    have : (Region.linearise .any ops t).filter p.2.1.contains = (Region.linearise .any ops t).filter cs.contains := List.filter_congr fun j _ => by
      rw [Bool.eq_iff_iff]
      refine ⟨fun hh => ?_, fun hh => ?_⟩
      · exact q2 j (by simpa using hh)
      · exact q3 j (by simpa using hh)
    rw [this, ← hpc]
  obtain ⟨Lf, hl, hs', dr, k⟩ := d p hpm
  exact sched_run (planC_plan q1) lin hsame dr k (S.same r rfl rfl rfl rfl)
end Go.Proofs.Ytagnfckihdlhpaa.Draw

/-
  den: the program's code, run over typed data. For any program.
-/
namespace Go.Proofs.Ytagnfckihdlhpaa.Den
open Go.RowKit

inductive AT where
  | one (c : C)
  | agg (cs : List C)
  | tup (xs : List AT)
instance : Inhabited AT := ⟨.tup []⟩
/-- An object of the local heap: a row (with the number of its changes), a box, a map. -/
inductive Ob where
  | row (T : Ty) (n : Nat) (xs : List (I T))
  | box (cs : List C)
  | map (T : Ty) (kvs : List (ByteArray × I T))
  | gone
structure St where
  L : List (Nat × AT)
  H : List Ob

/-- What is known of a type of the program. -/
structure TI where
  size : Nat
  agg : Bool
  zero : List C
  fields : List (Nat × Nat × Nat)
  elem : Option Ty
  str : Bool
  i64 : Bool
  bool : Bool

abbrev Kt (R : Type) := Exit → St → Option R
/-- The functions that are called. mode 0: the call only looks at own rows, and its result holds no slices; 1: all is flat; else: own objects are handed over; arg: how an argument is handed over then (0: flat, else as it is). -/
structure Orc where
  mode : Nat → Nat
  arg : Nat → Nat → Nat
  call : (R : Type) → Nat → List AT → List Ob → (AT → List Ob → Option R) → Option R

def constC (v : Value) : Option C := bif Abs.okLitB v then (match v with
  | .bool b => some (.b b)
  | .int .i64 n => some (.i n)
  | .int k n => some (.k k n)
  | .string s => some (.s s)
  | .slice none 0 0 => some .zs
  | .pointer none => some .z
  | .map none => some .z
  | .nilFunc => some .z
  | _ => none) else none
def ev (L : List (Nat × AT)) : Operand → Option AT
  | .tmp t => L.lookup t
  | .const v => (constC v).map .one
  | .func f => some (.one (.f f []))
  | _ => none
def evs (L : List (Nat × AT)) : List Operand → Option (List AT)
  | [] => some []
  | x :: xs => match ev L x, evs L xs with
    | some v, some vs => some (v :: vs)
    | _, _ => none

def ix {α : Type} (xs : List α) (i : Int) : Option α := bif decide (0 ≤ i) then xs[i.toNat]? else none
/-- A list that memory bears. -/
def lim {α : Type} (xs : List α) : Option (List α) := bif Nat.ble xs.length 4294967296 then some xs else none
def mk {α : Type} (x : α) (n : Int) : Option (List α) := bif decide (0 ≤ n) && decide (n ≤ 4294967296) then some (List.replicate n.toNat x) else none
def sub {α : Type} (xs : List α) (lo hi : Int) : Option (List α) := bif decide (0 ≤ lo) && decide (lo ≤ hi) && decide (hi ≤ (xs.length : Int)) then some ((xs.take hi.toNat).drop lo.toNat) else none

def ld (agg : Bool) (size : Nat) (cs : List C) : Option AT :=
  if agg then (if Nat.ble size cs.length then some (.agg (cs.take size)) else none) else cs.head?.map .one
def cells : AT → Option (List C)
  | .one c => some [c]
  | .agg cs => some cs
  | _ => none
def splice (cs : List C) (off : Nat) (vs : List C) : List C := cs.take off ++ (vs ++ cs.drop (off + vs.length))

/-- An own row becomes immutable. -/
def C.fz (id : Nat) (T : Ty) (xs : List (I T)) : C → C
  | .o j => if Nat.beq j id then .l T xs else .o j
  | c => c
def AT.fz (id : Nat) (T : Ty) (xs : List (I T)) : AT → AT
  | .one c => .one (c.fz id T xs)
  | .agg cs => .agg (cs.map (C.fz id T xs))
  | .tup ys => .tup ys
def Ob.fz (id : Nat) (T : Ty) (xs : List (I T)) : Ob → Ob
  | .box cs => .box (cs.map (C.fz id T xs))
  | o => o
def St.fz (id : Nat) (T : Ty) (xs : List (I T)) (st : St) : St := ⟨st.L.map fun p => (p.1, p.2.fz id T xs), (st.H.set id .gone).map (Ob.fz id T xs)⟩
/-- The own rows that a value names become immutable. -/
def fzIds : List Nat → St → St
  | [], st => st
  | id :: ids, st => match st.H[id]? with
    | some (.row T _ xs) => fzIds ids (st.fz id T xs)
    | _ => fzIds ids st

/-- Flat data, looked at. -/
def peek (H : List Ob) : C → Option C
  | .lc T xs => some (.l T xs)
  | .nil T => some (.l T [])
  | .o id => match H[id]? with
    | some (.row T _ xs) => some (.l T xs)
    | _ => none
  | .i x => some (.i x)
  | .k kd x => some (.k kd x)
  | .b x => some (.b x)
  | .s x => some (.s x)
  | .l T xs => some (.l T xs)
  | .zs => some .zs
  | _ => none
def peeks (H : List Ob) : List C → Option (List C)
  | [] => some []
  | c :: cs => match peek H c, peeks H cs with
    | some d, some ds => some (d :: ds)
    | _, _ => none
def peekA (H : List Ob) : AT → Option AT
  | .one c => (peek H c).map .one
  | .agg cs => (peeks H cs).map .agg
  | .tup _ => none
def peekAs (H : List Ob) : List AT → Option (List AT)
  | [] => some []
  | c :: cs => match peekA H c, peekAs H cs with
    | some d, some ds => some (d :: ds)
    | _, _ => none
def flatC : C → Bool
  | .i _ | .k _ _ | .b _ | .s _ | .l _ _ => true
  | _ => false
def AT.flat : AT → Bool
  | .one c => flatC c
  | .agg cs => cs.all flatC
  | .tup xs => flatA xs
where flatA : List AT → Bool
  | [] => true
  | x :: xs => x.flat && flatA xs
def scal : C → Bool
  | .i _ | .k _ _ | .b _ | .s _ => true
  | _ => false
def AT.scal : AT → Bool
  | .one c => Den.scal c
  | .agg cs => cs.all Den.scal
  | .tup xs => scals xs
where scals : List AT → Bool
  | [] => true
  | x :: xs => x.scal && scals xs

variable {R : Type}

def binD (op : BinOp) (a b : C) : Option C := match a, b with
  | .i x, .i y => match op with
    | .add => some (.i (IntKind.i64.wrap (x + y)))
    | .sub => some (.i (IntKind.i64.wrap (x - y)))
    | .mul => some (.i (IntKind.i64.wrap (x * y)))
    | .lss => some (.b (decide (x < y)))
    | .leq => some (.b (decide (x ≤ y)))
    | .gtr => some (.b (decide (y < x)))
    | .geq => some (.b (decide (y ≤ x)))
    | .eql => some (.b (decide (x = y)))
    | .neq => some (.b (!decide (x = y)))
    | .and => some (.i (Abs.bitsI .and .i64 x y))
    | .or => some (.i (Abs.bitsI .or .i64 x y))
    | .xor => some (.i (Abs.bitsI .xor .i64 x y))
    | .andNot => some (.i (Abs.bitsI .andNot .i64 x y))
    | _ => none
  | .b x, .b y => match op with
    | .eql => some (.b (x == y))
    | .neq => some (.b (!(x == y)))
    | _ => none
  | _, _ => none
/-- What a computation gives: nothing, a value, or a value behind something that may fail. -/
inductive Pl (X : Type) where
  | no
  | ret (x : X)
  | opt {α : Type} (m : Option α) (f : α → Option X)
def Pl.run {X : Type} (p : Pl X) (K : X → Option R) : Option R := match p with
  | .no => none
  | .ret x => K x
  | .opt m f => m.bind fun a => match f a with
    | some x => K x
    | none => none
/-- Operations that may fail. -/
def binP (op : BinOp) (a b : C) (K : C → Option R) : Option R := match op, a, b with
  | .quo, .i x, .i y => bif decide (0 ≤ x) && decide (0 < y) then K (.i (x / y)) else none
  | .rem, .i x, .i y => bif decide (0 ≤ x) && decide (0 < y) then K (.i (x % y)) else none
  | .shl, .i x, .i y => bif decide (0 ≤ y) then K (.i (Abs.bitsI .shl .i64 x y)) else none
  | .shr, .i x, .i y => bif decide (0 ≤ y) then K (.i (Abs.bitsI .shr .i64 x y)) else none
  | .shl, .i x, .k _ y => bif decide (0 ≤ y) then K (.i (Abs.bitsI .shl .i64 x y)) else none
  | .shr, .i x, .k _ y => bif decide (0 ≤ y) then K (.i (Abs.bitsI .shr .i64 x y)) else none
  | _, _, _ => match binD op a b with
    | some c => K c
    | none => none

def binV (op : BinOp) (a b : C) : Pl AT := match op, a, b with
  | .quo, .i x, .i y => .opt (bif decide (0 ≤ x) && decide (0 < y) then some (x / y) else none) fun q => some (.one (.i q))
  | .rem, .i x, .i y => .opt (bif decide (0 ≤ x) && decide (0 < y) then some (x % y) else none) fun q => some (.one (.i q))
  | .shl, .i x, .i y => .opt (bif decide (0 ≤ y) then some (Abs.bitsI .shl .i64 x y) else none) fun q => some (.one (.i q))
  | .shr, .i x, .i y => .opt (bif decide (0 ≤ y) then some (Abs.bitsI .shr .i64 x y) else none) fun q => some (.one (.i q))
  | .shl, .i x, .k _ y => .opt (bif decide (0 ≤ y) then some (Abs.bitsI .shl .i64 x y) else none) fun q => some (.one (.i q))
  | .shr, .i x, .k _ y => .opt (bif decide (0 ≤ y) then some (Abs.bitsI .shr .i64 x y) else none) fun q => some (.one (.i q))
  | _, _, _ => match binD op a b with
    | some c => .ret (.one c)
    | none => .no

def lenC (H : List Ob) : C → Option Int
  | .l _ xs => some (xs.length : Int)
  | .lc _ xs => some (xs.length : Int)
  | .nil _ => some 0
  | .zs => some 0
  | .o id => match H[id]? with
    | some (.row _ _ xs) => some (xs.length : Int)
    | _ => none
  | _ => none

/-- A slot is written. -/
def St.put (st : St) (d : Nat) (v : AT) : St := ⟨(d, v) :: st.L, st.H⟩

def castL {T T' : Ty} (xs : List (I T')) : Option (List (I T)) := if h : T' = T then some (h ▸ xs) else none
/-- The elements of a slice that is read. -/
def elemsOf (H : List Ob) (T : Ty) (c : C) : Option (List (I T)) := match peek H c with
  | some (.l _ xs) => castL xs
  | _ => none

def fillC (place : Nat → Option (Nat × Nat)) (cs : List C) : List (Nat × List C) → Option (List C)
  | [] => some cs
  | (i, vs) :: rest => match place i with
    | some (off, size) => if Nat.beq vs.length size && Nat.ble (off + vs.length) cs.length then fillC place (splice cs off vs) rest else none
    | none => none
def evParts (L : List (Nat × AT)) : List (Nat × Operand) → Option (List (Nat × List C))
  | [] => some []
  | (i, x) :: rest => match (ev L x).bind cells, evParts L rest with
    | some vs, some ps => some ((i, vs) :: ps)
    | _, _ => none
/-- The elements of a row that is written out. -/
def elemsD (T : Ty) (z : I T) : (len k : Nat) → List (Nat × List C) → Option (List (I T))
  | 0, _, [] => some []
  | 0, _, _ :: _ => none
  | n + 1, k, ps => match ps with
    | (j, cs) :: rest => if Nat.beq j k then
        (match peeks [] cs with
        | some ds => match implode T ds, elemsD T z n (k + 1) rest with
          | some x, some xs => some (x :: xs)
          | _, _ => none
        | none => none)
      else (match elemsD T z n (k + 1) ps with
        | some xs => some (z :: xs)
        | none => none)
    | [] => match elemsD T z n (k + 1) [] with
      | some xs => some (z :: xs)
      | none => none

/-- Operations that leave the own objects as they are: their value. -/
def valD (tb : Nat → Option TI) (o : Oper) (L : List (Nat × AT)) (H : List Ob) : Pl AT :=
  match o.op with
  | .move x | .assign x => match ev L x with
    | some (.one .zs) => match (tb o.type).bind (·.elem) with
      | some T => .ret (.one (.nil T))
      | none => .no
    | some v => .ret v
    | none => .no
  | .pick c a b => match ev L c with
    | some (.one (.b p)) => match p with
      | true => match ev L a with
        | some va => .ret va
        | none => .no
      | false => match ev L b with
        | some vb => .ret vb
        | none => .no
    | _ => .no
  | .build t parts => match tb t, evParts L parts.toList with
    | some ti, some ps => match ti.fields, fillC (fun k => (ti.fields[k]?).map fun f => (f.1, f.2.2)) ti.zero ps with
      | _ :: _, some cs => .ret (.agg cs)
      | _, _ => .no
    | _, _ => .no
  | .fieldAddr t x f => match tb t, ev L x with
    | some ti, some (.one (.p id off)) => match ti.fields[f]? with
      | some (fo, _) => .ret (.one (.p id (off + fo)))
      | none => .no
    | some ti, some (.one (.q T y off)) => match ti.fields[f]? with
      | some (fo, _) => .ret (.one (.q T y (off + fo)))
      | none => .no
    | some ti, some (.one (.e id k n T y off)) => match H[id]?, ti.fields[f]? with
      | some (.row _ _ _), some (fo, _) => .ret (.one (.e id k n T y (off + fo)))
      | _, _ => .no
    | _, _ => .no
  | .field t x f => match tb t, ev L x with
    | some ti, some (.agg cs) => match ti.fields[f]? with
      | some (fo, ft, _) => match tb ft with
        | some fi => match ld fi.agg fi.size (cs.drop fo) with
          | some v => .ret v
          | none => .no
        | none => .no
      | none => .no
    | _, _ => .no
  | .load t x => match tb t, ev L x with
    | some ti, some (.one (.p id off)) => match H[id]? with
      | some (.box cs) => match ld ti.agg ti.size (cs.drop off) with
        | some v => .ret v
        | none => .no
      | _ => .no
    | some ti, some (.one (.q T y off)) => match ld ti.agg ti.size ((explode T y).drop off) with
      | some v => .ret v
      | none => .no
    | some ti, some (.one (.e id k n T y off)) => match H[id]? with
      | some (.row _ n' xs) => if Nat.beq n n' then (match ld ti.agg ti.size ((explode T y).drop off) with
          | some v => .ret v
          | none => .no)
        else (match castL (T := T) xs with
          | some xs => Pl.opt xs[k]? fun y' => ld ti.agg ti.size ((explode T y').drop off)
          | none => .no)
      | _ => .no
    | _, _ => .no
  | .indexAddr t x y => match (tb t).bind (·.elem), ev L x, ev L y with
    | some T', some (.one (.l T xs)), some (.one (.i i)) => if Nat.beq (szT T') (szT T) then Pl.opt (ix xs i) (fun e => some (.one (.q T e 0))) else .no
    | some T', some (.one (.o id)), some (.one (.i i)) => match H[id]? with
      | some (.row T n xs) => if Nat.beq (szT T') (szT T) then Pl.opt (ix xs i) (fun e => some (.one (.e id i.toNat n T e 0))) else .no
      | _ => .no
    | _, _, _ => .no
  | .slice t x lo hi none => match (tb t).bind (·.elem), ev L x with
    | some T', some (.one (.l T xs)) => if Nat.beq (szT T') (szT T) then match (match lo with | some y => ev L y | none => some (.one (.i 0))), (match hi with | some y => ev L y | none => some (.one (.i xs.length))) with
      | some (.one (.i a)), some (.one (.i b)) => Pl.opt (sub xs a b) fun ys => some (.one (.l T ys))
      | _, _ => .no
      else .no
    | _, _ => .no
  | .nilCheck x => match ev L x with
    | some (.one (.p id off)) => .ret (.one (.p id off))
    | some (.one (.q T y off)) => .ret (.one (.q T y off))
    | _ => .no
  | .binOp op t x y _ => match ev L x, ev L y with
    | some (.one a), some (.one b) => match a with
      | .b _ => match (tb t).map (·.bool) with
        | some true => binV op a b
        | _ => .no
      | _ => binV op a b
    | _, _ => .no
  | .unOp .not _ x => match ev L x with
    | some (.one (.b p)) => .ret (.one (.b (!p)))
    | _ => .no
  | .extract x j => match ev L x with
    | some (.tup xs) => match xs[j]? with
      | some v => .ret v
      | none => .no
    | _ => .no
  | .convert t1 t x => match tb t1, tb t, ev L x with
    | some _, some ti, some (.one (.k .u8 a)) => match ti.i64 with
      | true => .ret (.one (.i a))
      | false => .no
    | _, _, _ => .no
  | .call ⟨.builtin .len, args, tys⟩ => match args.toList, tys.toList with
    | [x], [t] => match tb t, ev L x with
      | some ti, some (.one (.s s)) => match ti.str with
        | true => .ret (.one (.i (s.size : Int)))
        | false => .no
      | some ti, some (.one c) => match ti.elem, lenC H c with
        | some _, some n => .ret (.one (.i n))
        | _, _ => .no
      | _, _ => .no
    | _, _ => .no
  | _ => .no
def kind : Go.Op → Nat
  | .alloc _ | .box _ _ | .buildSlice _ _ _ | .makeSlice _ _ _ => 1
  | .call ⟨.builtin .append, _, _⟩ => 1
  | .call ⟨.value _, _, _⟩ => 2
  | _ => 0
def sameOp : Operand → Operand → Bool
  | .tmp a, .tmp b => Nat.beq a b
  | .const (.int .i64 a), .const (.int .i64 b) => decide (a = b)
  | _, _ => false
/-- Operations that make own objects. -/
def effD (tb : Nat → Option TI) (o : Oper) (L : List (Nat × AT)) (H : List Ob) : Pl (AT × List Ob) :=
  match o.op with
  | .alloc t => match tb t with
    | some ti => .ret (.one (.p H.length 0), H ++ [.box ti.zero])
    | none => .no
  | .box _ x => match (ev L x).bind cells with
    | some cs => .ret (.one (.p H.length 0), H ++ [.box cs])
    | none => .no
  | .buildSlice t len parts => match (tb t).bind (·.elem), evParts L parts.toList with
    | some T, some ps => match zeroT T with
      | some z => match elemsD T z len 0 ps, Nat.ble (len * szT T) 16777216 with
        | some xs, true => .ret (.one (.o H.length), H ++ [.row T 0 xs])
        | _, _ => .no
      | none => .no
    | _, _ => .no
  | .makeSlice t x y => match (tb t).bind (·.elem), ev L x, sameOp x y with
    | some T, some (.one (.i n)), true => match zeroT T with
      | some z => Pl.opt (mk z n) fun xs => some (.one (.o H.length), H ++ [.row T 0 xs])
      | none => .no
    | _, _, _ => .no
  | .call ⟨.builtin .append, args, tys⟩ => match args.toList, tys.toList with
    | [x, y], [t, tx] => match (tb t).bind (·.elem), (tb tx).bind (·.elem), ev L x, ev L y with
      | some T, some _, some (.one cx), some (.one cy) => match elemsOf H T cy with
        | some ys => match cx with
          | .o id => match H[id]? with
            | some (.row _ _ xs) => match castL (T := T) xs with
              | some xs => Pl.opt (lim (xs ++ ys)) fun zs => some (.one (.o H.length), (H.set id .gone) ++ [.row T 0 zs])
              | none => .no
            | _ => .no
          | .nil _ => Pl.opt (lim ys) fun zs => some (.one (.o H.length), H ++ [.row T 0 zs])
          | _ => .no
        | none => .no
      | _, _, _, _ => .no
    | _, _ => .no
  | _ => .no

/-- The ids that a value names. -/
def C.ids : C → List Nat
  | .o id => [id]
  | .p id _ => [id]
  | .m id => [id]
  | .f _ caps => capIds caps
  | _ => []
where capIds : List C → List Nat
  | [] => []
  | .p id _ :: cs => id :: capIds cs
  | .o id :: cs => id :: capIds cs
  | _ :: cs => capIds cs
def AT.ids : AT → List Nat
  | .one c => c.ids
  | .agg cs => cs.flatMap C.ids
  | .tup xs => idsA xs
where idsA : List AT → List Nat
  | [] => []
  | x :: xs => x.ids ++ idsA xs
def addIds (H : List Ob) : Nat → List Nat → List Nat → List Nat
  | 0, _, acc => acc
  | _, [], acc => acc
  | n + 1, id :: rest, acc => if acc.contains id then addIds H n rest acc else
    match H[id]? with
    | some (.box cs) => addIds H n (cs.flatMap C.ids ++ rest) (acc ++ [id])
    | _ => addIds H n rest (acc ++ [id])
/-- The place of an id in a list. -/
def pos : List Nat → Nat → Option Nat
  | [], _ => none
  | k :: ks, id => if Nat.beq k id then some 0 else match pos ks id with
    | some j => some (j + 1)
    | none => none
/-- Ids, named anew. -/
def C.mv (g : Nat → Option Nat) : C → Option C
  | .o id => match g id with
    | some j => some (.o j)
    | none => none
  | .p id off => match g id with
    | some j => some (.p j off)
    | none => none
  | .m id => match g id with
    | some j => some (.m j)
    | none => none
  | .e _ _ _ _ _ _ => none
  | .f _ (_ :: _) => none
  | c => some c
def mvs (g : Nat → Option Nat) : List C → Option (List C)
  | [] => some []
  | c :: cs => match c.mv g, mvs g cs with
    | some d, some ds => some (d :: ds)
    | _, _ => none
def AT.mv (g : Nat → Option Nat) : AT → Option AT
  | .one c => match c.mv g with
    | some d => some (.one d)
    | none => none
  | .agg cs => match mvs g cs with
    | some ds => some (.agg ds)
    | none => none
  | .tup xs => match mvA g xs with
    | some ys => some (.tup ys)
    | none => none
where mvA (g : Nat → Option Nat) : List AT → Option (List AT)
  | [] => some []
  | x :: xs => match x.mv g, mvA g xs with
    | some y, some ys => some (y :: ys)
    | _, _ => none
def Ob.mv (g : Nat → Option Nat) : Ob → Option Ob
  | .box cs => match mvs g cs with
    | some ds => some (.box ds)
    | none => none
  | o => some o
def obs (g : Nat → Option Nat) : List Ob → Option (List Ob)
  | [] => some []
  | x :: xs => match x.mv g, obs g xs with
    | some y, some ys => some (y :: ys)
    | _, _ => none
def getAll (H : List Ob) : List Nat → Option (List Ob)
  | [] => some []
  | id :: ids => match H[id]?, getAll H ids with
    | some x, some xs => some (x :: xs)
    | _, _ => none
/-- The changes of rows are counted anew. -/
def Ob.anew : Ob → Ob
  | .row T _ xs => .row T 0 xs
  | o => o
/-- Some objects, as a heap of their own. -/
def pickH (keep : List Nat) (H : List Ob) : Option (List Ob) := match getAll H keep with
  | some xs => match obs (pos keep) xs with
    | some ys => some (ys.map Ob.anew)
    | none => none
  | none => none
def eqL : List Nat → List Nat → Bool
  | [], [] => true
  | x :: xs, y :: ys => Nat.beq x y && eqL xs ys
  | _, _ => false
def nodupB : List Nat → Bool
  | [] => true
  | x :: xs => !xs.contains x && nodupB xs
/-- An object behind a call: a row's number grows. -/
def Ob.bump (old new : Ob) : Ob := match new with
  | .row T _ xs => (match old with
    | .row _ n _ => .row T (n + 1) xs
    | _ => .row T 0 xs)
  | y => y
def setAll : List Ob → List Nat → List Ob → List Ob
  | H, id :: ids, x :: xs => setAll (match H[id]? with
    | some o => H.set id (o.bump x)
    | none => H) ids xs
  | H, _, _ => H
/-- Ids of a callee, in its caller. -/
def back (keep : List Nat) (n : Nat) (j : Nat) : Option Nat := if Nat.blt j keep.length then keep[j]? else some (n + (j - keep.length))

/-- The arguments of a call; a slice that is nil may become an own row. -/
def convs (O : Orc) (f : Nat) : Nat → List AT → List Ob → Option (List AT × List Ob)
  | _, [], H => some ([], H)
  | j, x :: xs, H => match O.arg f j with
    | 0 => match peekA [] x, convs O f (j + 1) xs H with
      | some y, some (ys, H') => some (y :: ys, H')
      | _, _ => none
    | _ + 1 => match x with
      | .one (.nil T) => match convs O f (j + 1) xs (H ++ [.row T 0 []]) with
        | some (ys, H') => some (.one (.o H.length) :: ys, H')
        | none => none
      | _ => match convs O f (j + 1) xs H with
        | some (ys, H') => some (x :: ys, H')
        | none => none
/-- A function, called with values. -/
def callF (O : Orc) (f : Nat) (xs : List AT) (H : List Ob) (K : AT → List Ob → Option R) : Option R := match O.mode f with
  | 0 => match peekAs H xs with
    | some ys => O.call R f ys [] fun v _ => match v.scal with
      | true => K v H
      | false => none
    | none => none
  | 1 => match peekAs [] xs with
    | some ys => O.call R f ys [] fun v _ => match v.flat with
      | true => K v H
      | false => none
    | none => none
  | _ + 2 => match convs O f 0 xs H with
    | some (ys, H1) => let keep := addIds H1 1000 (AT.ids.idsA ys) []
      match nodupB keep, pickH keep H1, AT.mv.mvA (pos keep) ys with
      | true, some Hc, some zs => O.call R f zs Hc fun v Hc' => match Nat.ble keep.length Hc'.length, obs (back keep H1.length) Hc', v.mv (back keep H1.length) with
        | true, some Hb, some u => K u (setAll H1 keep Hb ++ Hb.drop keep.length)
        | _, _, _ => none
      | _, _, _ => none
    | none => none
def callD (O : Orc) (o : Oper) (L : List (Nat × AT)) (H : List Ob) (K : AT → List Ob → Option R) : Option R :=
  match o.op with
  | .call ⟨.value x, args, _⟩ => match ev L x, evs L args.toList with
    | some (.one (.f f caps)), some xs => callF O f (xs ++ caps.map .one) H K
    | _, _ => none
  | _ => none
/-- An operation with a result. -/
def opD (tb : Nat → Option TI) (O : Orc) (o : Oper) (L : List (Nat × AT)) (H : List Ob) (K : AT → List Ob → Option R) : Option R :=
  match kind o.op with
  | 0 => (valD tb o L H).run fun v => K v H
  | 1 => (effD tb o L H).run fun q => K q.1 q.2
  | _ => callD O o L H K
/-- Operations without a result. -/
def opN (tb : Nat → Option TI) (o : Oper) (L : List (Nat × AT)) (H : List Ob) : Pl (List Ob) :=
  match o.op with
  | .store t x y => match tb t, ev L x, (ev L y).bind cells with
    | some ti, some (.one (.p id off)), some vs => match H[id]? with
      | some (.box cs) => if Nat.beq ti.size vs.length && Nat.ble (off + vs.length) cs.length then .ret (H.set id (.box (splice cs off vs))) else .no
      | _ => .no
    | some ti, some (.one (.e id k n T e off)), some vs => match peeks [] vs with
      | some ds => match H[id]? with
        | some (.row _ n' xs) => match castL (T := T) xs with
          | some xs => if Nat.beq ti.size vs.length && Nat.ble (off + vs.length) (szT T) && Nat.blt 0 (szT T) then
            (if Nat.beq n n' then (match implode T (splice (explode T e) off ds) with
                | some x => .ret (H.set id (.row T (n' + 1) (xs.set k x)))
                | none => .no)
              else Pl.opt xs[k]? fun e' => match implode T (splice (explode T e') off ds) with
                | some x => some (H.set id (.row T (n' + 1) (xs.set k x)))
                | none => none)
            else .no
          | none => .no
        | _ => .no
      | none => .no
    | _, _, _ => .no
  | _ => .no

/-- One operation: what it gives and the objects behind it. -/
def one (tb : Nat → Option TI) (O : Orc) (nt : Nat) (o : Oper) (L : List (Nat × AT)) (H : List Ob) (K : AT → List Ob → Option R) : Option R := match o.dst with
  | some d => if Nat.blt d nt then opD tb O o L H K else none
  | none => (opN tb o L H).run fun H' => K (.tup []) H'
def bindA (dst : Option Nat) (v : AT) (L : List (Nat × AT)) : List (Nat × AT) := match dst with
  | some d => (d, v) :: L
  | none => L
def gsl (ops : List Oper) (j : Nat) : Option Nat := match ops[j]? with
  | some o => o.dst
  | none => none
/-- An operation's guard: it is run, or not; the slot is known then. -/
def guardK (nt : Nat) (ops : List Oper) (o : Oper) (L1 L : List (Nat × AT)) (run skip : List (Nat × AT) → Option R) : Option R := match o.guard with
  | none => run L
  | some (j, want) => match gsl ops j, o.dst with
    | some d, some d' => if Nat.blt d' nt then match L1.lookup d with
      | some (.one (.b p)) => match want with
        | true => bif p then run ((d, .one (.b true)) :: L) else skip ((d, .one (.b false)) :: L)
        | false => bif p then skip ((d, .one (.b true)) :: L) else run ((d, .one (.b false)) :: L)
      | some (.tup []) => skip L
      | _ => none
      else none
    | _, _ => none
/-- Slices that are immutable from the start. -/
def immD (tb : Nat → Option TI) (o : Oper) (L : List (Nat × AT)) : Pl AT :=
  match o.op with
  | .buildSlice t len parts => match (tb t).bind (·.elem), evParts L parts.toList with
    | some T, some ps => match zeroT T with
      | some z => match elemsD T z len 0 ps, Nat.ble (len * szT T) 16777216 with
        | some xs, true => .ret (.one (.l T xs))
        | _, _ => .no
      | none => .no
    | _, _ => .no
  | _ => .no
def oneI (tb : Nat → Option TI) (nt : Nat) (o : Oper) (L : List (Nat × AT)) (K : AT → Option R) : Option R := match o.dst with
  | some d => if Nat.blt d nt then (immD tb o L).run K else none
  | none => none

/-- The own rows that an operation makes part of flat data. -/
def C.rows : C → List Nat
  | .o id => [id]
  | _ => []
def rowsOf (L : List (Nat × AT)) (x : Operand) : List Nat := match (ev L x).bind cells with
  | some cs => cs.flatMap C.rows
  | none => []
def rowsArgs (O : Orc) (f : Nat) : Nat → List AT → List Nat
  | _, [] => []
  | j, x :: xs => match O.arg f j with
    | 0 => (match cells x with
      | some cs => cs.flatMap C.rows
      | none => []) ++ rowsArgs O f (j + 1) xs
    | _ + 1 => rowsArgs O f (j + 1) xs
def prepIds (O : Orc) (o : Oper) (L : List (Nat × AT)) : List Nat := match o.op with
  | .buildSlice _ _ parts => parts.toList.flatMap fun p => rowsOf L p.2
  | .slice _ x _ _ _ => rowsOf L x
  | .store _ x y => match ev L x with
    | some (.one (.e _ _ _ _ _ _)) => rowsOf L y
    | _ => []
  | .call ⟨.value x, args, _⟩ => match ev L x, evs L args.toList with
    | some (.one (.f f caps)), some xs => match O.mode f with
      | 0 => []
      | 1 => (xs ++ caps.map AT.one).flatMap fun x => match cells x with
        | some cs => cs.flatMap C.rows
        | none => []
      | _ + 2 => rowsArgs O f 0 (xs ++ caps.map AT.one)
    | _, _ => []
  | _ => []
def prep (O : Orc) (o : Oper) (st : St) : St := fzIds (prepIds O o st.L) st

/-- The operations of a region in the order of its text. -/
def opsD (tb : Nat → Option TI) (O : Orc) (nt : Nat) (ops : List Oper) : List Oper → St → (St → Option R) → Option R
  | [], st, K => K st
  | o :: rest, st, K => let st1 := prep O o st
    guardK nt ops o st1.L st1.L (fun L => one tb O nt o L st1.H fun v H' => opsD tb O nt ops rest ⟨bindA o.dst v L, H'⟩ K) (fun L => opsD tb O nt ops rest ⟨bindA o.dst (.tup []) L, st1.H⟩ K)
/-- Operations that leave the own objects as they are. -/
def keeps (O : Orc) (o : Oper) (L : List (Nat × AT)) : Bool := match o.dst with
  | none => false
  | some _ => match o.op with
    | .call ⟨.value x, _, _⟩ => match ev L x with
      | some (.one (.f f _)) => Nat.blt (O.mode f) 2
      | _ => false
    | op => Nat.beq (kind op) 0
/-- The objects that an operation changes. -/
def touch (O : Orc) (o : Oper) (L : List (Nat × AT)) (H : List Ob) : List Nat := match o.op with
  | .store _ x _ => match ev L x with
    | some (.one (.p id _)) => [id]
    | some (.one (.e id _ _ _ _ _)) => [id]
    | _ => []
  | .call ⟨.builtin .append, args, _⟩ => match args.toList with
    | x :: _ => match ev L x with
      | some (.one (.o id)) => [id]
      | _ => []
    | [] => []
  | .call ⟨.value x, args, _⟩ => match ev L x, evs L args.toList with
    | some (.one (.f f caps)), some xs => match O.mode f with
      | 0 => []
      | 1 => []
      | _ + 2 => match convs O f 0 (xs ++ caps.map .one) H with
        | some (ys, H1) => addIds H1 1000 (AT.ids.idsA ys) []
        | none => []
    | _, _ => []
  | _ => []
/-- Some objects of a heap. -/
def maskH (vis : List Nat) (H : List Ob) : List Ob := H.mapIdx fun i o => if vis.contains i then o else .gone
def unseen (Hm : List Ob) (id : Nat) : Bool := match Hm[id]? with
  | none => true
  | some .gone => true
  | _ => false
def hideH (ids : List Nat) (H : List Ob) : List Ob := H.mapIdx fun i o => if ids.contains i then .gone else o
/-- The operations of a region that draws its order, in one order: those of ch change own objects (none of Hm), those of rd look at them (at objects that are as they were, Hd, or at all if what changes objects stands ahead), the others look at Hm alone. -/
def drawD (tb : Nat → Option TI) (O : Orc) (nt : Nat) (ops : Array Oper) (Hm : List Ob) (π ch rd : List Nat) : List Nat → List Nat → List (Nat × AT) → List Ob → List Ob → (List (Nat × AT) → List Ob → Option R) → Option R
  | _, [], L, _, H, K => K L H
  | done, i :: rest, L, Hd, H, K => match ops[i]? with
    | none => none
    | some o => let L1 := Draw.sel L (o.looksAt ops)
      let next := fun L v Hd H' => drawD tb O nt ops Hm π ch rd (i :: done) rest (bindA o.dst v L) Hd H' K
      if ch.contains i then guardK nt ops.toList o L1 L (fun L => if (touch O o L1 H).all (unseen Hm) then one tb O nt o L1 H (fun v H' => next L v (hideH (touch O o L1 H) Hd) H') else none) (fun L => next L (.tup []) Hd H)
      else
        (if rd.contains i then
          guardK nt ops.toList o L1 L (fun L => if Nat.beq (kind o.op) 1 then oneI tb nt o L1 fun v => next L v Hd H
            else if keeps O o L1 then one tb O nt o L1 (if Nat.ble (Abs.cnt ch done) (Abs.cnt ch (π.filter fun j => Abs.isBef ops j i)) then H else Hd) fun v _ => next L v Hd H else none) (fun L => next L (.tup []) Hd H)
        else guardK nt ops.toList o L1 L (fun L => if Nat.beq (kind o.op) 1 then oneI tb nt o L1 fun v => next L v Hd H
            else if keeps O o L1 then one tb O nt o L1 Hm fun v _ => next L v Hd H else none) (fun L => next L (.tup []) Hd H))

/-- Slices that are nil become own rows. -/
def matC : List C → List Ob → List C × List Ob
  | [], H => ([], H)
  | c :: cs, H => match c with
    | .nil T => let r := matC cs (H ++ [.row T 0 []]); (.o H.length :: r.1, r.2)
    | c => let r := matC cs H; (c :: r.1, r.2)
def matA : AT → List Ob → AT × List Ob
  | .one c, H => match c with
    | .nil T => (.one (.o H.length), H ++ [.row T 0 []])
    | c => (.one c, H)
  | .agg cs, H => let r := matC cs H; (.agg r.1, r.2)
  | .tup xs, H => (.tup xs, H)
def matL : List (Nat × AT) → List Ob → List (Nat × AT) × List Ob
  | [], H => ([], H)
  | (t, v) :: L, H => let r := matA v H; let q := matL L r.2; ((t, r.1) :: q.1, q.2)
def matH : Nat → List Ob → List Ob
  | 0, H => H
  | n + 1, H => match H[n]? with
    | some (.box cs) => let r := matC cs H; matH n (r.2.set n (.box r.1))
    | _ => matH n H
def slots (L : List (Nat × AT)) : List Nat → List (Nat × AT)
  | [] => []
  | t :: ts => match L.lookup t with
    | some v => (t, v) :: slots L ts
    | none => slots L ts
def mvL (g : Nat → Option Nat) : List (Nat × AT) → Option (List (Nat × AT))
  | [] => some []
  | (t, v) :: L => match v.mv g, mvL g L with
    | some u, some L' => some ((t, u) :: L')
    | _, _ => none
/-- The slots that are still looked at, and the objects that they lead to, numbered anew behind the first r. -/
def restrict (r : Nat) (lv : List Nat) (st : St) (K : St → Option R) : Option R :=
  let q := matL (slots st.L lv) (matH st.H.length st.H)
  let keep := addIds q.2 1000 (List.range r ++ q.1.flatMap fun p => p.2.ids) []
  match nodupB keep && eqL (keep.take r) (List.range r), pickH keep q.2, mvL (pos keep) q.1 with
  | true, some H', some L' => K ⟨L', H'⟩
  | _, _, _ => none

/-- What is said of a region that draws: its orders (each with what changes own objects and what looks at them), what changes own objects, which slots' rows become immutable ahead, the objects that none of it changes, and, if there is more than one order, the slots that it needs. -/
structure Dw where
  orders : List (List Nat × List Nat × List Nat)
  cs : List Nat
  fz : List Nat
  vis : List Nat
  lv : List Nat
/-- What is said of a function's code: its slots, the objects handed in, the slots that loops and meeting places need, the slots of the results, the regions that draw. -/
structure Ann where
  nt : Nat
  refs : Nat
  loops : List (Nat × List Nat)
  cuts : List (Nat × List Nat)
  ret : List Nat
  plans : List (Nat × Dw)
/-- Pieces of code whose meaning is given: loops, and places where ways meet. -/
structure Pcs where
  loop : (R : Type) → Nat → St → Kt R → Option R
  cut : (R : Type) → Nat → St → Kt R → Option R
  draw : (R : Type) → Nat → St → Kt R → Option R
def Pcs.at_ (pc : Pcs) (k : Nat) (R : Type) (id : Nat) : St → Kt R → Option R := match k with
  | 0 => pc.cut R id
  | 1 => pc.loop R id
  | _ => pc.draw R id

def entry : Code → Nat
  | .region id _ _ => id
  | .seq a _ => entry a
  | .block _ a => entry a
  | .loop a => entry a
  | _ => 100000

def thenK (next : St → Option R) (K : Kt R) : Kt R
  | .normal, st => next st
  | e, st => K e st
def blockK (id : Nat) (K : Kt R) : Kt R
  | .exit id', st => if Nat.beq id' id then K .normal st else K (.exit id') st
  | e, st => K e st
/-- The slots that are needed behind a piece. -/
structure Outs where
  n : List Nat
  r : List Nat
  x : List (Nat × List Nat)
def Outs.of (o : Outs) : Exit → List Nat
  | .normal => o.n
  | .ret => o.r
  | .exit id => match o.x.lookup id with
    | some l => l
    | none => []
  | _ => []
def outK (r : Nat) (o : Outs) (K : Kt R) : Kt R := fun e st => restrict r (o.of e) st (K e)
def roundK (r : Nat) (lv : List Nat) (o : Outs) (next : St → Option R) (K : Kt R) : Kt R := thenK (fun st => restrict r lv st next) (outK r o K)
def rowsIn (H : List Ob) : C → List Nat
  | .o id => [id]
  | .p id _ => match H[id]? with
    | some (.box cs) => cs.flatMap C.rows
    | _ => []
  | _ => []
def slotRows (L : List (Nat × AT)) (H : List Ob) : List Nat → List Nat
  | [] => []
  | t :: ts => (match (L.lookup t).bind cells with
    | some cs => cs.flatMap (rowsIn H)
    | none => []) ++ slotRows L H ts

/-- A slot that was asked is known behind it. -/
def known (c : Operand) (b : Bool) (st : St) : St := match c with
  | .tmp t => ⟨(t, .one (.b b)) :: st.L, st.H⟩
  | _ => st
def den (tb : Nat → Option TI) (O : Orc) (pc : Pcs) (an : Ann) : Code → St → Kt R → Option R
  | .skip, st, K => K .normal st
  | .ret, st, K => K .ret st
  | .exit id, st, K => K (.exit id) st
  | .seq a b, st, K => den tb O pc an a st (thenK (fun st' => match an.cuts.lookup (entry b) with
    | some lv => restrict an.refs lv st' fun st2 => pc.cut R (entry b) st2 K
    | none => den tb O pc an b st' K) K)
  | .block id a, st, K => den tb O pc an a st (blockK id K)
  | .cond c a b, st, K => match ev st.L c with
    | some (.one (.b p)) => bif p then (match an.cuts.lookup (entry a) with
        | some lv => restrict an.refs lv (known c true st) fun st2 => pc.cut R (entry a) st2 K
        | none => den tb O pc an a (known c true st) K)
      else (match an.cuts.lookup (entry b) with
        | some lv => restrict an.refs lv (known c false st) fun st2 => pc.cut R (entry b) st2 K
        | none => den tb O pc an b (known c false st) K)
    | _ => none
  | .loop a, st, K => match an.loops.lookup (entry a) with
    | some lv => restrict an.refs lv st fun st2 => pc.loop R (entry a) st2 K
    | none => none
  | .region _ ops false, st, K => opsD tb O an.nt ops.toList ops.toList st (K .normal)
  | .region id ops true, st, K => match an.plans.lookup id with
    | some d => match d.orders with
      | [] => none
      | [(π, ch, rd)] => if Abs.planOK ops π ch rd then
          let st1 := fzIds (slotRows st.L st.H d.fz) st
          drawD tb O an.nt ops (maskH d.vis st1.H) π ch rd [] π st1.L st1.H st1.H fun L H => K .normal ⟨L, H⟩
        else none
      | _ :: _ :: _ => restrict an.refs d.lv st fun st2 => pc.draw R id st2 K
    | none => none
  | _, _, _ => none

/-- The pieces of some code: of which kind (0: where ways meet, 1: a loop, 2: a region of several orders), the number, the code. -/
def pieces (an : Ann) : Code → List (Nat × Nat × Code)
  | .seq a b => pieces an a ++ (match an.cuts.lookup (entry b) with
    | some _ => [(0, entry b, b)]
    | none => pieces an b)
  | .block _ a => pieces an a
  | .cond _ a b => (match an.cuts.lookup (entry a) with
    | some _ => [(0, entry a, a)]
    | none => pieces an a) ++ (match an.cuts.lookup (entry b) with
    | some _ => [(0, entry b, b)]
    | none => pieces an b)
  | .loop a => [(1, entry a, .loop a)]
  | .region id ops true => match an.plans.lookup id with
    | some d => match d.orders with
      | _ :: _ :: _ => [(2, id, .region id ops true)]
      | _ => []
    | none => []
  | _ => []

def nthC : List Nat → Code → Code
  | [], c => c
  | 0 :: l, .seq a _ => nthC l a
  | 1 :: l, .seq _ b => nthC l b
  | _ :: l, .block _ a => nthC l a
  | _ :: l, .loop a => nthC l a
  | 0 :: l, .cond _ a _ => nthC l a
  | _ :: l, .cond _ _ b => nthC l b
  | _, _ => .skip
def bodyOf (f : Func) : Code := f.body.getD .skip
def opsOf : Code → Array Oper
  | .region _ ops _ => ops
  | _ => #[]

/-- A function that is called, by what it gives. -/
structure Ent where
  f : Nat
  mode : Nat
  arg : List Nat
  call : (R : Type) → List AT → List Ob → (AT → List Ob → Option R) → Option R
def findE : List Ent → Nat → Option Ent
  | [], _ => none
  | e :: l, f => bif Nat.beq e.f f then some e else findE l f
def orcOf (l : List Ent) : Orc where
  mode := fun f => match findE l f with
    | some e => e.mode
    | none => 1
  arg := fun f j => match findE l f with
    | some e => e.arg.getD j 0
    | none => 0
  call := fun R f xs H K => match findE l f with
    | some e => e.call R xs H K
    | none => none
abbrev wr (x : Int) : Int := IntKind.i64.wrap x
/-- Rounds, as many as there is fuel. -/
def iter {V R : Type} (body : V → (V → Option R) → Option R) : Nat → V → Option R
  | 0, _ => none
  | n + 1, v => body v (iter body n)
theorem iter_rule {V R : Type} {body : V → (V → Option R) → Option R} (Q : V → Prop) (μ : V → Nat) (f : V → Option R) (h : ∀ v nx, Q v → (∀ v', Q v' → μ v' < μ v → nx v' = f v') → body v nx = f v) : ∀ n v, Q v → μ v < n → iter body n v = f v
  | 0, _, _, hn => absurd hn (Nat.not_lt_zero _)
  | n + 1, v, hv, hn => h v _ hv fun v' hv' hlt => iter_rule Q μ f h n v' hv' (by omega)
end Go.Proofs.Ytagnfckihdlhpaa.Den

/-
  den's states and the states of the abstract logic.
-/
namespace Go.Proofs.Ytagnfckihdlhpaa.Den
open Go.RowKit
open Abs (V AV Env Heap)

/-- Flat cells. -/
inductive FR : C → V → Prop
  | i {x : Int} : FR (.i x) (.lit (.int .i64 x))
  | k {kd : IntKind} {x : Int} : FR (.k kd x) (.lit (.int kd x))
  | b {x : Bool} : FR (.b x) (.lit (.bool x))
  | s {x : ByteArray} : FR (.s x) (.lit (.string x))
  | l {T : Ty} {xs : List (I T)} {es : List (List V)} (hp : 0 < szT T) (hl : es.length = xs.length) (hs : ∀ e ∈ es, e.length = szT T)
      (hr : ∀ (m : Nat) (h1 : m < xs.length) (h2 : m < es.length) (j : Nat) (h3 : j < (explode T xs[m]).length) (h4 : j < es[m].length), FR (explode T xs[m])[j] es[m][j]) : FR (.l T xs) (.imm (szT T) es)

def FRs (cs : List C) (vs : List V) : Prop := cs.length = vs.length ∧ ∀ (j : Nat) (h1 : j < cs.length) (h2 : j < vs.length), FR cs[j] vs[j]

abbrev Rho := List (Option Nat)

inductive CR (ρ : Rho) (H : List Ob) : C → V → Prop
  | fl {c : C} {v : V} (h : FR c v) : CR ρ H c v
  | lc {T : Ty} {xs : List (I T)} {es : List (List V)} (h : FR (.l T xs) (.imm (szT T) es)) : CR ρ H (.lc T xs) (.immc (szT T) es)
  | nil {T : Ty} (hp : 0 < szT T) : CR ρ H (.nil T) (.lit (.slice none 0 0))
  | o {id a n : Nat} {T : Ty} {xs : List (I T)} (h1 : ρ[id]? = some (some a)) (h2 : H[id]? = some (.row T n xs)) : CR ρ H (.o id) (.own a 0 xs.length)
  | oN {id n : Nat} {T : Ty} {xs : List (I T)} (h1 : ρ[id]? = some none) (h2 : H[id]? = some (.row T n xs)) : CR ρ H (.o id) (.lit (.slice none 0 0))
  | oG {id : Nat} {v : V} (h : H[id]? = some .gone) : CR ρ H (.o id) v
  | p {id a off : Nat} (h1 : ρ[id]? = some (some a)) : CR ρ H (.p id off) (.ptr a 0 off)
  | e {id a m n n' off : Nat} {T : Ty} {x : I T} {xs : List (I T)} (h1 : ρ[id]? = some (some a)) (h2 : H[id]? = some (.row T n' xs)) (h3 : m < xs.length) (h4 : n ≤ n') (h5 : n = n' → xs[m]? = some x) : CR ρ H (.e id m n T x off) (.ptr a m off)
  | eG {id m n off : Nat} {T : Ty} {x : I T} {v : V} (h : H[id]? = some .gone) : CR ρ H (.e id m n T x off) v
  | q {T : Ty} {x : I T} {off : Nat} {vs : List V} (h : FRs (explode T x) vs) : CR ρ H (.q T x off) (.iptr (vs.drop off))
  | f {fn : Nat} {caps : List C} {vs : List V} (hl : caps.length = vs.length) (hr : ∀ (j : Nat) (h1 : j < caps.length) (h2 : j < vs.length), CR ρ H caps[j] vs[j]) : CR ρ H (.f fn caps) (.clo (.func fn) vs)
  | m {id a : Nat} (h1 : ρ[id]? = some (some a)) : CR ρ H (.m id) (.mp a)
  | zs : CR ρ H .zs (.lit (.slice none 0 0))
  | zP : CR ρ H .z (.lit (.pointer none))
  | zM : CR ρ H .z (.lit (.map none))
  | zF : CR ρ H .z (.lit .nilFunc)
def CRs (ρ : Rho) (H : List Ob) (cs : List C) (vs : List V) : Prop := cs.length = vs.length ∧ ∀ (j : Nat) (h1 : j < cs.length) (h2 : j < vs.length), CR ρ H cs[j] vs[j]

inductive ATR (ρ : Rho) (H : List Ob) : AT → AV → Prop
  | one {c : C} {v : V} (h : CR ρ H c v) : ATR ρ H (.one c) (.one v)
  | agg {cs : List C} {vs : List V} (h : CRs ρ H cs vs) : ATR ρ H (.agg cs) (.agg vs)
  | tup {xs : List AT} {ys : List AV} (hl : xs.length = ys.length) (h : ∀ (j : Nat) (h1 : j < xs.length) (h2 : j < ys.length), ATR ρ H xs[j] ys[j]) : ATR ρ H (.tup xs) (.tup ys)

def EncL (ρ : Rho) (H : List Ob) (D : List (Nat × AT)) (L : Env) : Prop := ∀ t v, D.lookup t = some v → ∃ av, L.lookup t = some av ∧ ATR ρ H v av

structure HpR (ρ : Rho) (H : List Ob) (h : Heap) : Prop where
  len : ρ.length = H.length
  row : ∀ (id n : Nat) (T : Ty) (xs : List (I T)), H[id]? = some (.row T n xs) → (∃ a es, ρ[id]? = some (some a) ∧ h[a]? = some (some (.row (szT T) es)) ∧ FR (.l T xs) (.imm (szT T) es)) ∨ (ρ[id]? = some none ∧ xs = [] ∧ 0 < szT T)
  box : ∀ (id : Nat) (cs : List C), H[id]? = some (.box cs) → ∃ a vs, ρ[id]? = some (some a) ∧ h[a]? = some (some (.row vs.length [vs])) ∧ CRs ρ H cs vs
  map : ∀ (id : Nat) (T : Ty) (kvs : List (ByteArray × I T)), H[id]? = some (.map T kvs) → ∃ a ws, ρ[id]? = some (some a) ∧ h[a]? = some (some (.map ws)) ∧ kvs.length = ws.length ∧ 0 < szT T ∧ ∀ (j : Nat) (h1 : j < kvs.length) (h2 : j < ws.length), kvs[j].1 = ws[j].1 ∧ FRs (explode T kvs[j].2) ws[j].2
  inj : ∀ (i j a : Nat), ρ[i]? = some (some a) → ρ[j]? = some (some a) → i = j
  lt : ∀ (i a : Nat), ρ[i]? = some (some a) → a < h.length

/-- How an object may change. -/
def evo (x y : Ob) : Prop := y = .gone ∨ (∃ T n xs n' xs', x = .row T n xs ∧ y = .row T n' xs' ∧ xs.length = xs'.length ∧ n ≤ n' ∧ (n = n' → xs = xs')) ∨ (∃ cs ds, x = .box cs ∧ y = .box ds) ∨ ∃ T kvs kvs', x = .map T kvs ∧ y = .map T kvs'
theorem evo.refl (x : Ob) : evo x x := by
  cases x with
  | row T n xs => exact .inr (.inl ⟨T, n, xs, n, xs, rfl, rfl, rfl, Nat.le_refl _, fun _ => rfl⟩)
  | box cs => exact .inr (.inr (.inl ⟨_, _, rfl, rfl⟩))
  | map T kvs => exact .inr (.inr (.inr ⟨_, _, _, rfl, rfl⟩))
  | gone => exact .inl rfl
theorem evo.gone' {y : Ob} (h : evo .gone y) : y = .gone := by
  rcases h with h | ⟨_, _, _, _, _, h, _⟩ | ⟨_, _, h, _⟩ | ⟨_, _, _, h, _⟩
  · exact h
  all_goals cases h
theorem evo.row' {T : Ty} {n : Nat} {xs : List (I T)} {y : Ob} (h : evo (.row T n xs) y) : y = .gone ∨ ∃ n' xs', y = .row T n' xs' ∧ xs.length = xs'.length ∧ n ≤ n' ∧ (n = n' → xs = xs') := by
  rcases h with h | ⟨_, _, _, n', xs', h, h2, h3, h4, h5⟩ | ⟨_, _, h, _⟩ | ⟨_, _, _, h, _⟩
  · exact .inl h
  · cases h; exact .inr ⟨n', xs', h2, h3, h4, h5⟩
  all_goals cases h
/-- The objects go on: what slots say of them stays right. -/
structure Ev (ρ : Rho) (H : List Ob) (ρ' : Rho) (H' : List Ob) : Prop where
  rho : ∀ (id : Nat) (x : Option Nat), ρ[id]? = some x → ρ'[id]? = some x
  ob : ∀ (id : Nat) (x : Ob), H[id]? = some x → ∃ y, H'[id]? = some y ∧ evo x y
theorem Ev.refl (ρ : Rho) (H : List Ob) : Ev ρ H ρ H := ⟨fun _ _ h => h, fun _ x h => ⟨x, h, evo.refl x⟩⟩
theorem CR.mono {ρ ρ' : Rho} {H H' : List Ob} (e : Ev ρ H ρ' H') {c : C} {v : V} (h : CR ρ H c v) : CR ρ' H' c v := by
  induction h with
  | fl h => exact .fl h
  | lc h => exact .lc h
  | nil h => exact .nil h
  | o h1 h2 =>
    obtain ⟨y, h3, h4⟩ := e.ob _ _ h2
    rcases h4.row' with rfl | ⟨n', xs', rfl, h5, _, _⟩
    · exact .oG h3
    · rw [h5]; exact .o (e.rho _ _ h1) h3
  | oN h1 h2 =>
    obtain ⟨y, h3, h4⟩ := e.ob _ _ h2
    rcases h4.row' with rfl | ⟨n', xs', rfl, h5, _, _⟩
    · exact .oG h3
    · exact .oN (e.rho _ _ h1) h3
  | oG h =>
    obtain ⟨y, h3, h4⟩ := e.ob _ _ h
    cases h4.gone'
    exact .oG h3
  | p h1 => exact .p (e.rho _ _ h1)
  | e h1 h2 h3 h4 h5 =>
    obtain ⟨y, k3, k4⟩ := e.ob _ _ h2
    rcases k4.row' with rfl | ⟨n', xs', rfl, k5, k6, k7⟩
    · exact .eG k3
    · refine .e (e.rho _ _ h1) k3 (by omega) (by omega) (fun hn => ?_)
      rw [← k7 (by omega)]
      exact h5 (by omega)
  | eG h =>
    obtain ⟨y, h3, h4⟩ := e.ob _ _ h
    cases h4.gone'
    exact .eG h3
  | q h => exact .q h
  | f hl hr ih => exact .f hl ih
  | m h1 => exact .m (e.rho _ _ h1)
  | zs => exact .zs
  | zP => exact .zP
  | zM => exact .zM
  | zF => exact .zF
theorem CRs.mono {ρ ρ' : Rho} {H H' : List Ob} (e : Ev ρ H ρ' H') {cs : List C} {vs : List V} (h : CRs ρ H cs vs) : CRs ρ' H' cs vs := ⟨h.1, fun j h1 h2 => (h.2 j h1 h2).mono e⟩
theorem ATR.mono {ρ ρ' : Rho} {H H' : List Ob} (e : Ev ρ H ρ' H') {v : AT} {av : AV} (h : ATR ρ H v av) : ATR ρ' H' v av := by
  induction h with
  | one h => exact .one (h.mono e)
  | agg h => exact .agg (h.mono e)
  | tup hl h ih => exact .tup hl ih
theorem EncL.mono {ρ ρ' : Rho} {H H' : List Ob} (e : Ev ρ H ρ' H') {D : List (Nat × AT)} {L : Env} (h : EncL ρ H D L) : EncL ρ' H' D L := fun t v hv => let ⟨av, h1, h2⟩ := h t v hv; ⟨av, h1, h2.mono e⟩

/-- How the objects that were handed in have changed. -/
def evo0 (x y : Ob) : Prop := y = .gone ∨ (∃ T n xs n' xs', x = .row T n xs ∧ y = .row T n' xs' ∧ xs.length = xs'.length) ∨ (∃ cs ds, x = .box cs ∧ y = .box ds) ∨ ∃ T kvs kvs', x = .map T kvs ∧ y = .map T kvs'
theorem evo.old {x y z : Ob} (h : evo0 x y) (k : evo y z) : evo0 x z := by
  rcases k with k | ⟨T, n, xs, n', xs', rfl, rfl, k1, k2, k3⟩ | ⟨cs, ds, rfl, rfl⟩ | ⟨T, a, b, rfl, rfl⟩
  · exact .inl k
  · rcases h with h | ⟨T2, m, ys, m', ys', rfl, h2, h3⟩ | ⟨_, _, _, h⟩ | ⟨_, _, _, _, h⟩
    · cases h
    · cases h2; exact .inr (.inl ⟨T, m, ys, n', xs', rfl, rfl, by omega⟩)
    · cases h
    · cases h
  · rcases h with h | ⟨_, _, _, _, _, _, h2, _⟩ | ⟨a, _, rfl, h⟩ | ⟨_, _, _, _, h⟩
    · cases h
    · cases h2
    · exact .inr (.inr (.inl ⟨a, ds, rfl, rfl⟩))
    · cases h
  · rcases h with h | ⟨_, _, _, _, _, _, h2, _⟩ | ⟨a, _, rfl, h⟩ | ⟨_, c, _, rfl, h⟩
    · cases h
    · cases h2
    · cases h
    · cases h; exact .inr (.inr (.inr ⟨T, c, b, rfl, rfl⟩))
theorem evo0.refl (x : Ob) : evo0 x x := by
  cases x with
  | row T n xs => exact .inr (.inl ⟨T, n, xs, n, xs, rfl, rfl, rfl⟩)
  | box cs => exact .inr (.inr (.inl ⟨_, _, rfl, rfl⟩))
  | map T kvs => exact .inr (.inr (.inr ⟨_, _, _, rfl, rfl⟩))
  | gone => exact .inl rfl
/-- What a call knows at its entry. -/
structure In where
  h : Heap
  ρ : Rho
  H : List Ob
structure Fr (F : In) (ρ : Rho) (H : List Ob) (h : Heap) : Prop where
  len : F.h.length ≤ h.length
  old : ∀ (id a : Nat), ρ[id]? = some (some a) → a < F.h.length → F.ρ[id]? = some (some a)
  same : ∀ (a : Nat), a < F.h.length → (∀ (id : Nat), F.ρ[id]? ≠ some (some a)) → h[a]? = F.h[a]?
  rho : ∀ (id : Nat) (x : Option Nat), F.ρ[id]? = some x → ρ[id]? = some x
  ob : ∀ (id : Nat) (x : Ob), F.H[id]? = some x → ∃ y, H[id]? = some y ∧ evo0 x y
structure SR (F : In) (ρ : Rho) (st : St) (L : Env) (h : Heap) : Prop where
  slots : EncL ρ st.H st.L L
  heap : HpR ρ st.H h
  fr : Fr F ρ st.H h

theorem CRs.nil_ {ρ : Rho} {H : List Ob} : CRs ρ H [] [] := ⟨rfl, fun j h => by simp at h⟩
theorem CRs.cons {ρ : Rho} {H : List Ob} {c : C} {v : V} {cs : List C} {vs : List V} (h : CR ρ H c v) (hs : CRs ρ H cs vs) : CRs ρ H (c :: cs) (v :: vs) :=
  ⟨by simp [hs.1], fun j h1 h2 => by
    cases j with
    | zero => exact h
    | succ j => exact hs.2 j (by simpa using h1) (by simpa using h2)⟩
theorem CRs.app {ρ : Rho} {H : List Ob} {a b : List C} {x y : List V} (h : CRs ρ H a x) (k : CRs ρ H b y) : CRs ρ H (a ++ b) (x ++ y) :=
  ⟨by simp [h.1, k.1], fun j h1 h2 => by
    by_cases hj : j < a.length
    · have hj' : j < x.length := by rw [← h.1]; exact hj
      rw [List.getElem_append_left hj, List.getElem_append_left hj']
      exact h.2 j hj hj'
    · have hj' : ¬ j < x.length := by rw [← h.1]; exact hj
      rw [List.getElem_append_right (by omega), List.getElem_append_right (by omega)]
      have := k.2 (j - a.length) (by simp at h1; omega) (by simp at h2; have := h.1; omega)
      have e := h.1
      simp only [e] at this ⊢
      exact this⟩
theorem CRs.take {ρ : Rho} {H : List Ob} {a : List C} {x : List V} (h : CRs ρ H a x) (n : Nat) : CRs ρ H (a.take n) (x.take n) :=
  ⟨by simp [h.1], fun j h1 h2 => by
    simp only [List.getElem_take]
    exact h.2 j (by simp at h1; omega) (by simp at h2; omega)⟩
theorem CRs.drop {ρ : Rho} {H : List Ob} {a : List C} {x : List V} (h : CRs ρ H a x) (n : Nat) : CRs ρ H (a.drop n) (x.drop n) :=
  ⟨by simp [h.1], fun j h1 h2 => by
    simp only [List.getElem_drop]
    exact h.2 (n + j) (by simp at h1; omega) (by simp at h2; omega)⟩
theorem FRs.cr {ρ : Rho} {H : List Ob} {cs : List C} {vs : List V} (h : FRs cs vs) : CRs ρ H cs vs := ⟨h.1, fun j h1 h2 => .fl (h.2 j h1 h2)⟩

theorem FR.elem {T : Ty} {xs : List (I T)} {es : List (List V)} (h : FR (.l T xs) (.imm (szT T) es)) {m : Nat} {x : I T} (hx : xs[m]? = some x) : ∃ e, es[m]? = some e ∧ FRs (explode T x) e := by
  cases h with
  | l hp hl hs hr =>
    obtain ⟨h1, rfl⟩ := List.getElem?_eq_some_iff.1 hx
    have h2 : m < es.length := by omega
    refine ⟨es[m], List.getElem?_eq_getElem h2, ?_, fun j h3 h4 => hr m h1 h2 j h3 h4⟩
    rw [explode_len T hp, hs _ (List.getElem_mem h2)]

theorem FR.nil_ {T : Ty} (hp : 0 < szT T) : FR (.l T []) (.imm (szT T) []) := .l hp rfl (fun e he => by simp at he) (fun m h1 => by simp at h1)
theorem FR.flat {c : C} {v : V} (h : FR c v) : v.flat = true := by cases h <;> rfl
theorem FR.flats {T : Ty} {xs : List (I T)} {es : List (List V)} (h : FR (.l T xs) (.imm (szT T) es)) : es.all (·.all V.flat) = true := by
  cases h with
  | l hp hl hs hr =>
    rw [List.all_eq_true]
    intro e he
    rw [List.all_eq_true]
    intro v hv
    obtain ⟨m, hm, rfl⟩ := List.getElem_of_mem he
    obtain ⟨j, hj, rfl⟩ := List.getElem_of_mem hv
    have := hs _ (List.getElem_mem hm)
    exact (hr m (by omega) hm j (by rw [explode_len T hp]; omega) hj).flat

/-- The operands. -/
theorem ev_ok {ρ : Rho} {H : List Ob} {D : List (Nat × AT)} {L : Env} (hs : EncL ρ H D L) {x : Operand} {v : AT} (h : ev D x = some v) : ∃ av, Abs.ev L x = some av ∧ ATR ρ H v av := by
  cases x with
  | tmp t => exact hs t v h
  | const u =>
    simp only [ev, Option.map_eq_some_iff] at h
    obtain ⟨c, h1, rfl⟩ := h
    unfold constC at h1
    cases hb : Abs.okLitB u with
    | false => rw [hb] at h1; simp at h1
    | true =>
      rw [hb] at h1
      simp only [cond_true] at h1
      have e : ∀ u', u = u' → (∀ cs, u' ≠ .agg cs) → Abs.ev L (.const u) = some (.one (.lit u')) := fun u' e hne => by
        subst e
        cases u <;> first | exact absurd rfl (hne _) | (simp only [Abs.ev, Abs.constAV]; rw [if_pos hb])
      split at h1 <;> first | (cases h1; done) | cases h1
      · exact ⟨_, e _ rfl (by simp), .one (.fl .b)⟩
      · exact ⟨_, e _ rfl (by simp), .one (.fl .i)⟩
      · exact ⟨_, e _ rfl (by simp), .one (.fl .k)⟩
      · exact ⟨_, e _ rfl (by simp), .one (.fl .s)⟩
      · exact ⟨_, e _ rfl (by simp), .one .zs⟩
      · exact ⟨_, e _ rfl (by simp), .one .zP⟩
      · exact ⟨_, e _ rfl (by simp), .one .zM⟩
      · exact ⟨_, e _ rfl (by simp), .one .zF⟩
  | func f =>
    simp only [ev, Option.some.injEq] at h
    subst h
    exact ⟨_, rfl, .one (.f rfl (fun j h => by simp at h))⟩
  | global g => simp [ev] at h
end Go.Proofs.Ytagnfckihdlhpaa.Den

/-
  Contracts of functions that take and give flat data: in whatever heap; with own rows lent.
-/
namespace Go.Proofs.Ytagnfckihdlhpaa.Abs
open Go.RowKit

theorem HR.nil (I : Nat → Prop) (w : World) : HR [] I w [] := ⟨rfl, fun _ _ _ h => by simp at h, fun _ _ _ h => by simp at h, fun _ _ _ _ _ _ h => by simp at h⟩
theorem noPass (b : Nat) : ¬ passOf [] [] b := fun ⟨_, _, _, h, _⟩ => by simp at h
theorem HR.blk {ι : List Inf} {I : Nat → Prop} {w : World} {h : Heap} (hH : HR ι I w h) {id : Nat} {o : Ob} {inf : Inf} (x : h[id]? = some (some o)) (y : ι[id]? = some inf) : inf.block < w.heap.size := by
  have := hH.obj id o inf x y
  cases o with
  | row s es => obtain ⟨cur, t, h1, _⟩ := this; exact (Array.getElem?_eq_some_iff.1 h1).1
  | map kvs => obtain ⟨en, cl, h1, _⟩ := this; exact (Array.getElem?_eq_some_iff.1 h1).1

theorem Fn.frame {P : Program} {f : FuncId} {xs : List AV} {av : AV} (hf : Fn P f xs [] (fun r h' => r = av ∧ h' = [])) (hx : AV.flats xs = true) (hr : av.flat = true) (h : Heap) : Fn P f xs h (fun r h' => r = av ∧ h' = h) := by
  refine ⟨hf.1, fun w I ι cs hH hI hA => (hf.2 w I [] cs (HR.nil I w) hI ⟨hA.1, fun j hj => let ⟨c, h1, h2⟩ := hA.2 j hj; ⟨c, h1, h2.free (AV.flats_mem hx _ (List.getElem_mem hj))⟩⟩).mono ?_⟩
  rintro e w' ⟨r, h', ι', I', c, ⟨rfl, rfl⟩, rfl, D⟩
  have hfr : ∀ b, b < w.heap.size → w'.heap[b]? = w.heap[b]? := fun b hb => D.frame b hb (noPass b)
  have hk : Keeps I (fun b => I b ∨ I' b) w w' := ⟨fun _ h => .inl h, fun b o hb => by simp only [World.cell?]; rw [hfr b (hI b hb)]⟩
  have hk' : Keeps I' (fun b => I b ∨ I' b) w' w' := ⟨fun _ h => .inr h, fun _ _ _ => rfl⟩
  refine ⟨r, h, ι, fun b => I b ∨ I' b, c, ⟨rfl, rfl⟩, rfl,
    { res := (D.res.free hr).keep (Grows.refl _) hk'
      heap := ⟨hH.len, fun id o inf x y => (hH.obj id o inf x y).keep (Grows.refl _) hk (hfr _ (hH.blk x y)), fun id o inf x y hb => ?_, hH.inj⟩
      imm := fun b hb => by
        rcases hb with hb | hb
        · have := hI b hb; have := D.grown; omega
        · exact D.imm b hb
      immlo := fun b hb => by
        rcases hb with hb | hb
        · exact .inl hb
        · rcases D.immlo b hb with hb | hb | hb
          · exact .inl hb
          · exact (noPass b hb).elim
          · exact .inr (.inr hb)
      pre := Grows.refl _
      os := D.os
      tape := D.tape
      output := D.output
      grown := D.grown
      frame := fun b hb _ => hfr b hb
      mine := fun id o inf x y => .inl ⟨id, o, inf, x, y, rfl⟩ }⟩
  rcases hb with hb | hb
  · exact hH.off id o inf x y hb
  · rcases D.immlo _ hb with hb | hb | hb
    · exact hH.off id o inf x y hb
    · exact noPass _ hb
    · have := hH.blk x y; omega

/-- A call that only looks at own rows. -/
theorem ar_borrow {P : Program} {E : Cx} {L : Env} {h : Heap} {d f : Nat} {args : List Operand} {tys : Array TypeId} {ty : TypeId} {pos : String} {af : Array Edge} {gd : Option (Nat × Bool)} {avs xs : List AV} {av : AV}
    (hx : evs L args = some avs) (hn : d < E.n) (hf : Fn P f xs [] (fun r h' => r = av ∧ h' = [])) (hsc : ∀ ι I w ι' I' w' c, AR ι I w av c → AR ι' I' w' av c) (hl : avs.length = xs.length)
    (hb : ∀ ι I a w, Rel E L h ι I a w → ∀ (j : Nat) (h1 : j < avs.length) (h2 : j < xs.length) (c : Value), AR ι I w avs[j] c → AR [] (fun b => b < w.heap.size) w xs[j] c) :
    ar P ⟨some d, .call ⟨.value (.func f), args.toArray, tys⟩, ty, pos, af, gd⟩ E (fun L2 h2 => L2 = (d, av) :: L ∧ h2 = h) L h := by
  refine ⟨fun Lf ι I a w r => ?_⟩
  unfold Oper.wp
  have hrun : (execOp a.eval (⟨some d, .call ⟨.value (.func f), args.toArray, tys⟩, ty, pos, af, gd⟩ : Oper)).run P w = .ok (.enter f (args.map a.eval).toArray) w := by
    simp [execOp, resolve, Act.eval, Deferred.ofValue, invoke, hf.1.run]
  rw [hrun, Oper.upon_enter]
  have hA := r.low.evs hx
  refine (hf.2 w (fun b => b < w.heap.size) [] _ (HR.nil _ w) (fun _ h => h) ⟨by rw [hA.1, hl], fun j hj => ?_⟩).mono ?_
  · obtain ⟨c, h1, h2⟩ := hA.2 j (by omega)
    exact ⟨c, h1, hb ι I a w r.low j (by omega) hj c h2⟩
  rintro e w' ⟨v, h', ι', I', c, ⟨rfl, rfl⟩, rfl, D⟩
  have hfr : ∀ b, b < w.heap.size → w'.heap[b]? = w.heap[b]? := fun b hb => D.frame b hb (noPass b)
  have hk : Keeps I I w w' := ⟨fun _ h => h, fun b o hb => by simp only [World.cell?]; rw [hfr b (r.imm b hb)]⟩
  refine ⟨_, h, ι, I, ⟨rfl, rfl⟩, Rel.put (c := c) ?_ hn (hsc _ _ _ _ _ _ _ D.res)⟩
  exact
  { slots := fun t u hu => let ⟨c, x, y⟩ := r.slots t u hu; ⟨c, x, y.keep (Grows.refl _) hk⟩
    heap := ⟨r.heap.len, fun id o inf x y => (r.heap.obj id o inf x y).keep (Grows.refl _) hk (hfr _ (r.heap.blk x y)), r.heap.off, r.heap.inj⟩
    imm := fun b hb => by have := r.imm b hb; have := D.grown; omega
    immlo := r.immlo
    pre := r.pre
    os := D.os.trans r.os
    tape := D.tape.trans r.tape
    output := D.output.trans r.output
    grown := Nat.le_trans r.grown D.grown
    frame := fun b x y => by rw [hfr b (by have := r.grown; omega)]; exact r.frame b x y
    mine := r.mine
    defers := r.defers
    size := r.size }

/-- An own row, looked at. -/
theorem VR.lend {E : Cx} {L : Env} {h : Heap} {ι : List Inf} {I : Nat → Prop} {a : Act} {w : World} (r : Rel E L h ι I a w) {id off len s : Nat} {es : List (List V)} {c : Value} (ho : h[id]? = some (some (.row s es))) (hfl : es.all (·.all V.flat) = true) (hle : off + len ≤ es.length)
    (hv : VR I w ι (.own id off len) c) : VR (fun b => b < w.heap.size) w [] (.imm s ((es.drop off).take len)) c := by
  obtain ⟨inf, hι⟩ : ∃ inf, ι[id]? = some inf := by cases hv with | own hi _ _ _ => exact ⟨_, hi⟩ | own0 hi _ => exact ⟨_, hi⟩
  have h1 := VR.fz r ho hι hfl hv (fun off' len' e => by cases e; exact hle)
  have h2 : (V.own id off len).fz id s es = .imm s ((es.drop off).take len) := by simp [V.fz]
  rw [h2] at h1
  refine (h1.free (ι' := []) rfl).keep (Grows.refl _) ⟨fun b hb => ?_, fun _ _ _ => rfl⟩
  rcases hb with hb | hb
  · exact r.imm b hb
  · rw [hb]; exact r.heap.blk ho hι
end Go.Proofs.Ytagnfckihdlhpaa.Abs

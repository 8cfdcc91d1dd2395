/-
  Texts that the claim rests on, merged: DenV, DenE, DenE2, DenE3, DenO, DenS, DenM, DenM2.
-/
import Derived.Deep.Upon
import Derived.Test.YtagnfckihdlhpaaZRowUnr3

/-
  den is sound: operations that leave the own objects as they are.
-/
namespace Go.Proofs.Ytagnfckihdlhpaa.Den
open Go.RowKit
open Abs (V AV Env Heap ar)

def zeroOK : Value → C → Bool
  | .int .i64 0, .i 0 => true
  | .int k 0, .k k' 0 => k == k'
  | .bool false, .b false => true
  | .string s, .s s' => s.size == 0 && s'.size == 0
  | .slice none 0 0, .nil T => Nat.blt 0 (szT T)
  | .pointer none, .z => true
  | .map none, .z => true
  | .nilFunc, .z => true
  | _, _ => false
def zerosOK : List Value → List C → Bool
  | [], [] => true
  | v :: vs, c :: cs => zeroOK v c && zerosOK vs cs
  | _, _ => false
def zeroFlat : Value → C → Bool
  | .int .i64 0, .i 0 => true
  | .int .u8 0, .k .u8 0 => true
  | .bool false, .b false => true
  | .string s, .s s' => s.size == 0 && s'.size == 0
  | .slice none 0 0, .l T [] => Nat.blt 0 (szT T)
  | _, _ => false
def zerosFlat : List Value → List C → Bool
  | [], [] => true
  | v :: vs, c :: cs => zeroFlat v c && zerosFlat vs cs
  | _, _ => false
/-- What is known of a type is so. -/
def tiOK (i : Abs.TyI) (ti : TI) : Bool :=
  i.size == ti.size && i.agg == ti.agg && zerosOK i.zero ti.zero && decide (i.fields = ti.fields) && i.fields.all (fun f => Nat.blt 0 f.2.2) && Nat.blt 0 i.zero.length && Nat.blt 0 i.size &&
  (!ti.str || (match i.desc with | .string => true | _ => false)) && (!ti.i64 || (match i.desc with | .int .i64 => true | _ => false)) && (!ti.bool || (match i.desc with | .bool => true | _ => false)) &&
  (match ti.elem with
  | none => true
  | some T => match i.elem, zeroT T with
    | some el, some z => el.size == szT T && Nat.blt 0 (szT T) && el.zero.length == el.size && zerosFlat el.zero (explode T z) && Nat.ble el.bytes 4096 && Nat.ble el.size 4096
    | _, _ => false)
def TBOK (P : Program) (tb : Nat → Option TI) : Prop := ∀ t ti, tb t = some ti → ∃ i, Abs.tyOf P t = some i ∧ tiOK i ti = true

/-- What an operation gives. -/
def ValOK (P : Program) (o : Oper) (E : Abs.Cx) (ρ : Rho) (H : List Ob) (L : Env) (h : Heap) (v : AT) : Prop := ∃ av, ATR ρ H v av ∧ ar P o E (fun L2 h2 => L2 = Abs.bindD o.dst av L ∧ h2 = h) L h

structure TyF (P : Program) (t : Nat) (ti : TI) (i : Abs.TyI) : Prop where
  tb : Abs.TbOK P [(t, i)]
  look : List.lookup t [(t, i)] = some i
  size : i.size = ti.size
  agg : i.agg = ti.agg
  zero : zerosOK i.zero ti.zero = true
  ty : Abs.tyOf P t = some i
  field : ∀ (f fo ft sz : Nat), ti.fields[f]? = some (fo, ft, sz) → i.fields[f]? = some (fo, ft, sz) ∧ 0 < sz
  fields : i.fields = ti.fields
  fpos : i.fields.all (fun f => decide (0 < f.2.2)) = true
  zne : i.zero ≠ []
  str : ti.str = true → i.desc = .string
  i64 : ti.i64 = true → i.desc = .int .i64
  bool : ti.bool = true → i.desc = .bool
  elem : ∀ T, ti.elem = some T → ∃ el z, i.elem = some el ∧ Abs.elOf [(t, i)] t = some el ∧ zeroT T = some z ∧ el.size = szT T ∧ 0 < szT T ∧ el.zero.length = el.size ∧ zerosFlat el.zero (explode T z) = true ∧ Nat.ble el.bytes 4096 = true ∧ Nat.ble el.size 4096 = true

theorem TBOK.get {P : Program} {tb : Nat → Option TI} (htb : TBOK P tb) {t : Nat} {ti : TI} (ht : tb t = some ti) : ∃ i, TyF P t ti i := by
  obtain ⟨i, h1, h2⟩ := htb t ti ht
  simp only [tiOK, Bool.and_eq_true, beq_iff_eq, decide_eq_true_eq, List.all_eq_true, Bool.or_eq_true, Bool.not_eq_true'] at h2
  obtain ⟨⟨⟨⟨⟨⟨⟨⟨⟨⟨h3, h4⟩, h5⟩, h6⟩, h7⟩, h8⟩, _⟩, h9⟩, h10⟩, h12⟩, h11⟩ := h2
  have hl : List.lookup t [(t, i)] = some i := by simp
  refine ⟨i, Abs.tbOK_cons h1 (Abs.tbOK_nil P), hl, h3, h4, h5, h1, fun f fo ft sz hf => ?_, h6, ?_, ?_, fun hs => ?_, fun hs => ?_, fun hs => ?_, fun T hT => ?_⟩
  · rw [← h6] at hf
    have := h7 _ (List.mem_of_getElem? hf)
    exact ⟨hf, by simpa [Nat.blt_eq] using this⟩
  · rw [List.all_eq_true]
    intro f hf
    have := h7 f hf
    simpa [Nat.blt_eq] using this
  · intro e
    rw [e] at h8
    simp at h8
  · rcases h9 with h9 | h9
    · rw [hs] at h9; cases h9
    · split at h9
      · assumption
      · cases h9
  · rcases h10 with h10 | h10
    · rw [hs] at h10; cases h10
    · split at h10
      · assumption
      · cases h10
  · rcases h12 with h12 | h12
    · rw [hs] at h12; cases h12
    · split at h12
      · assumption
      · cases h12
  · rw [hT] at h11
    simp only at h11
    split at h11
    · rename_i el z he hz
      simp only [Bool.and_eq_true, beq_iff_eq] at h11
      obtain ⟨⟨⟨⟨⟨g1, g2⟩, g3⟩, g4⟩, g5⟩, g6⟩ := h11
      exact ⟨el, z, he, by unfold Abs.elOf; rw [hl]; exact he, hz, g1, by simpa [Nat.blt_eq] using g2, g3, g4, g5, g6⟩
    · cases h11

theorem ld_ok {ρ : Rho} {H : List Ob} {agg : Bool} {size : Nat} {cs : List C} {vs : List V} {v : AT} (h : ld agg size cs = some v) (hc : CRs ρ H cs vs) : ∃ av, Abs.ldAV agg size vs = some av ∧ ATR ρ H v av := by
  unfold ld at h
  unfold Abs.ldAV
  cases agg with
  | true =>
    simp only [if_true] at h ⊢
    split at h
    · rename_i hb
      have hb : size ≤ cs.length := Nat.le_of_ble_eq_true hb
      cases h
      rw [if_pos (by rw [← hc.1]; exact hb)]
      exact ⟨_, rfl, .agg (hc.take size)⟩
    · cases h
  | false =>
    simp only [Bool.false_eq_true, if_false] at h ⊢
    cases cs with
    | nil => simp at h
    | cons c cs =>
      cases vs with
      | nil => have := hc.1; simp at this
      | cons x vs =>
        simp only [List.head?_cons, Option.map_some, Option.some.injEq] at h
        subst h
        exact ⟨_, rfl, .one (hc.2 0 (by simp) (by simp))⟩

section
variable {P : Program} {E : Abs.Cx} {ρ : Rho} {H : List Ob} {D : List (Nat × AT)} {L : Env} {h : Heap} {d : Nat} {ty : TypeId} {pos : String} {af : Array Edge} {gd : Option (Nat × Bool)} {R : Type} {K : AT → Option R} {r : R} {tb : Nat → Option TI} {O : Orc}

theorem ok_move {x : Operand} (hs : EncL ρ H D L) (hn : d < E.n) {v : AT} (hx : ev D x = some v) : ValOK P ⟨some d, .move x, ty, pos, af, gd⟩ E ρ H L h v := by
  obtain ⟨av, h1, h2⟩ := ev_ok hs hx
  exact ⟨av, h2, Abs.ar_move h1 hn ⟨rfl, rfl⟩⟩
theorem ok_assign {x : Operand} (hs : EncL ρ H D L) (hn : d < E.n) {v : AT} (hx : ev D x = some v) : ValOK P ⟨some d, .assign x, ty, pos, af, gd⟩ E ρ H L h v := by
  obtain ⟨av, h1, h2⟩ := ev_ok hs hx
  exact ⟨av, h2, Abs.ar_assign h1 hn ⟨rfl, rfl⟩⟩

theorem ATR.one' {c : C} {av : AV} (h : ATR ρ H (.one c) av) : ∃ v, av = .one v ∧ CR ρ H c v := by cases h with | one h => exact ⟨_, rfl, h⟩
theorem ATR.agg' {cs : List C} {av : AV} (h : ATR ρ H (.agg cs) av) : ∃ vs, av = .agg vs ∧ CRs ρ H cs vs := by cases h with | agg h => exact ⟨_, rfl, h⟩
theorem CR.int {x : Int} {v : V} (h : CR ρ H (.i x) v) : v = .lit (.int .i64 x) := by cases h with | fl h => cases h; rfl
theorem CR.kint {k : IntKind} {x : Int} {v : V} (h : CR ρ H (.k k x) v) : v = .lit (.int k x) := by cases h with | fl h => cases h; rfl
theorem CR.bool {x : Bool} {v : V} (h : CR ρ H (.b x) v) : v = .lit (.bool x) := by cases h with | fl h => cases h; rfl
theorem CR.str {x : ByteArray} {v : V} (h : CR ρ H (.s x) v) : v = .lit (.string x) := by cases h with | fl h => cases h; rfl
theorem CR.list {T : Ty} {xs : List (I T)} {v : V} (h : CR ρ H (.l T xs) v) : ∃ es, v = .imm (szT T) es ∧ FR (.l T xs) (.imm (szT T) es) := by
  cases h with | fl h => cases h with | l a b c d => exact ⟨_, rfl, .l a b c d⟩
theorem CR.ptr {id off : Nat} {v : V} (h : CR ρ H (.p id off) v) : ∃ a, v = .ptr a 0 off ∧ ρ[id]? = some (some a) := by
  cases h with
  | p h1 => exact ⟨_, rfl, h1⟩
  | fl h => cases h
theorem CR.qptr {T : Ty} {x : I T} {off : Nat} {v : V} (h : CR ρ H (.q T x off) v) : ∃ vs, v = .iptr (vs.drop off) ∧ FRs (explode T x) vs := by
  cases h with
  | q h1 => exact ⟨_, rfl, h1⟩
  | fl h => cases h
theorem CR.eptr {id m n n' off : Nat} {T T' : Ty} {x : I T} {ys : List (I T')} {v : V} (h : CR ρ H (.e id m n T x off) v) (hr : H[id]? = some (.row T' n' ys)) : ∃ a xs, v = .ptr a m off ∧ ρ[id]? = some (some a) ∧ H[id]? = some (.row T n' xs) ∧ m < xs.length ∧ n ≤ n' ∧ (n = n' → xs[m]? = some x) := by
  cases h with
  | e h1 h2 h3 h4 h5 => rw [h2] at hr; cases hr; exact ⟨_, _, rfl, h1, h2, h3, h4, h5⟩
  | eG h => rw [h] at hr; cases hr
  | fl h => cases h
theorem CR.own {id n : Nat} {T : Ty} {xs : List (I T)} {v : V} (h : CR ρ H (.o id) v) (hr : H[id]? = some (.row T n xs)) : (∃ a, v = .own a 0 xs.length ∧ ρ[id]? = some (some a)) ∨ (v = .lit (.slice none 0 0) ∧ ρ[id]? = some none) := by
  cases h with
  | o h1 h2 => rw [h2] at hr; cases hr; exact .inl ⟨_, rfl, h1⟩
  | oN h1 h2 => exact .inr ⟨rfl, h1⟩
  | oG h => rw [h] at hr; cases hr
  | fl h => cases h

theorem ok_fieldP (htb : TBOK P tb) (hs : EncL ρ H D L) (hn : d < E.n) {t f fo ft sz id off : Nat} {ti : TI} {x : Operand} (ht : tb t = some ti) (hx : ev D x = some (.one (.p id off))) (hf : ti.fields[f]? = some (fo, ft, sz)) :
    ValOK P ⟨some d, .fieldAddr t x f, ty, pos, af, gd⟩ E ρ H L h (.one (.p id (off + fo))) := by
  obtain ⟨i, F⟩ := htb.get ht
  obtain ⟨av, h1, h2⟩ := ev_ok hs hx
  obtain ⟨v, rfl, h3⟩ := h2.one'
  obtain ⟨a, rfl, h4⟩ := h3.ptr
  obtain ⟨h5, h6⟩ := F.field f fo ft sz hf
  exact ⟨_, .one (.p h4), Abs.ar_fieldO F.tb h1 F.look h5 h6 hn ⟨rfl, rfl⟩⟩
theorem ok_fieldQ (htb : TBOK P tb) (hs : EncL ρ H D L) (hn : d < E.n) {t f fo ft sz off : Nat} {T : Ty} {y : I T} {ti : TI} {x : Operand} (ht : tb t = some ti) (hx : ev D x = some (.one (.q T y off))) (hf : ti.fields[f]? = some (fo, ft, sz)) :
    ValOK P ⟨some d, .fieldAddr t x f, ty, pos, af, gd⟩ E ρ H L h (.one (.q T y (off + fo))) := by
  obtain ⟨i, F⟩ := htb.get ht
  obtain ⟨av, h1, h2⟩ := ev_ok hs hx
  obtain ⟨v, rfl, h3⟩ := h2.one'
  obtain ⟨vs, rfl, h4⟩ := h3.qptr
  obtain ⟨h5, h6⟩ := F.field f fo ft sz hf
  refine ⟨_, .one (.q h4), Abs.ar_fieldI F.tb h1 F.look h5 h6 hn ⟨?_, rfl⟩⟩
  rw [List.drop_drop]; rfl
theorem ok_fieldE (htb : TBOK P tb) (hs : EncL ρ H D L) (hn : d < E.n) {t f fo ft sz off id m n n' : Nat} {T T' : Ty} {y : I T} {ys : List (I T')} {ti : TI} {x : Operand} (ht : tb t = some ti) (hx : ev D x = some (.one (.e id m n T y off))) (hr : H[id]? = some (.row T' n' ys)) (hf : ti.fields[f]? = some (fo, ft, sz)) :
    ValOK P ⟨some d, .fieldAddr t x f, ty, pos, af, gd⟩ E ρ H L h (.one (.e id m n T y (off + fo))) := by
  obtain ⟨i, F⟩ := htb.get ht
  obtain ⟨av, h1, h2⟩ := ev_ok hs hx
  obtain ⟨v, rfl, h3⟩ := h2.one'
  obtain ⟨a, xs, rfl, h4, h5, h6, k1, k2⟩ := h3.eptr hr
  obtain ⟨h7, h8⟩ := F.field f fo ft sz hf
  exact ⟨_, .one (.e h4 h5 h6 k1 k2), Abs.ar_fieldO F.tb h1 F.look h7 h8 hn ⟨rfl, rfl⟩⟩
theorem ok_loadP (htb : TBOK P tb) (hs : EncL ρ H D L) (hh : HpR ρ H h) (hn : d < E.n) {t id off : Nat} {ti : TI} {x : Operand} {cs : List C} {v : AT} (ht : tb t = some ti) (hx : ev D x = some (.one (.p id off))) (hb : H[id]? = some (.box cs)) (hl : ld ti.agg ti.size (cs.drop off) = some v) :
    ValOK P ⟨some d, .load t x, ty, pos, af, gd⟩ E ρ H L h v := by
  obtain ⟨i, F⟩ := htb.get ht
  obtain ⟨av, h1, h2⟩ := ev_ok hs hx
  obtain ⟨u, rfl, h3⟩ := h2.one'
  obtain ⟨a, rfl, h4⟩ := h3.ptr
  obtain ⟨a', vs, h5, h6, h7⟩ := hh.box id cs hb
  rw [h4] at h5
  cases h5
  obtain ⟨av, h8, h9⟩ := ld_ok hl (h7.drop off)
  exact ⟨av, h9, Abs.ar_loadO F.tb h1 F.look h6 rfl (by rw [F.size, F.agg]; exact h8) hn ⟨rfl, rfl⟩⟩
theorem ok_loadQ (htb : TBOK P tb) (hs : EncL ρ H D L) (hn : d < E.n) {t off : Nat} {ti : TI} {x : Operand} {T : Ty} {y : I T} {v : AT} (ht : tb t = some ti) (hx : ev D x = some (.one (.q T y off))) (hl : ld ti.agg ti.size ((explode T y).drop off) = some v) :
    ValOK P ⟨some d, .load t x, ty, pos, af, gd⟩ E ρ H L h v := by
  obtain ⟨i, F⟩ := htb.get ht
  obtain ⟨av, h1, h2⟩ := ev_ok hs hx
  obtain ⟨u, rfl, h3⟩ := h2.one'
  obtain ⟨vs, rfl, h4⟩ := h3.qptr
  obtain ⟨av, h8, h9⟩ := ld_ok (ρ := ρ) (H := H) hl (h4.cr.drop off)
  exact ⟨av, h9, Abs.ar_loadI F.tb h1 F.look (by rw [F.size, F.agg]; exact h8) hn ⟨rfl, rfl⟩⟩
theorem HpR.at_ (hh : HpR ρ H h) {id a n : Nat} {T : Ty} {xs : List (I T)} (h1 : ρ[id]? = some (some a)) (h2 : H[id]? = some (.row T n xs)) : ∃ es, h[a]? = some (some (.row (szT T) es)) ∧ FR (.l T xs) (.imm (szT T) es) := by
  rcases hh.row id n T xs h2 with ⟨a', es, h3, h4, h5⟩ | ⟨h3, _⟩
  · rw [h1] at h3; cases h3; exact ⟨es, h4, h5⟩
  · rw [h1] at h3; cases h3
theorem ok_loadE (htb : TBOK P tb) (hs : EncL ρ H D L) (hh : HpR ρ H h) (hn : d < E.n) {t off id m n n' : Nat} {ti : TI} {x : Operand} {T : Ty} {y y' : I T} {ys : List (I T)} {v : AT} (ht : tb t = some ti) (hx : ev D x = some (.one (.e id m n T y off))) (hr : H[id]? = some (.row T n' ys)) (hy : ys[m]? = some y') (hl : ld ti.agg ti.size ((explode T y').drop off) = some v) :
    ValOK P ⟨some d, .load t x, ty, pos, af, gd⟩ E ρ H L h v := by
  obtain ⟨i, F⟩ := htb.get ht
  obtain ⟨av, h1, h2⟩ := ev_ok hs hx
  obtain ⟨u, rfl, h3⟩ := h2.one'
  obtain ⟨a, xs, rfl, h4, h5, h6, k1, k2⟩ := h3.eptr hr
  rw [hr] at h5
  cases h5
  obtain ⟨es, h7, h8⟩ := hh.at_ h4 hr
  obtain ⟨e, h9, h10⟩ := h8.elem hy
  obtain ⟨av, h11, h12⟩ := ld_ok (ρ := ρ) (H := H) hl (h10.cr.drop off)
  exact ⟨av, h12, Abs.ar_loadO F.tb h1 F.look h7 h9 (by rw [F.size, F.agg]; exact h11) hn ⟨rfl, rfl⟩⟩
theorem ix_some {α : Type} {xs : List α} {i : Int} {x : α} (h : ix xs i = some x) : 0 ≤ i ∧ xs[i.toNat]? = some x := by
  unfold ix at h
  by_cases hi : 0 ≤ i
  · simp [hi] at h; exact ⟨hi, h⟩
  · simp [hi] at h
theorem ok_indexL (htb : TBOK P tb) (hs : EncL ρ H D L) (hn : d < E.n) {t : Nat} {ti : TI} {x y : Operand} {T T' : Ty} {xs : List (I T)} {i : Int} {e : I T} (ht : tb t = some ti) (he : ti.elem = some T') (hsz : szT T' = szT T) (hx : ev D x = some (.one (.l T xs))) (hy : ev D y = some (.one (.i i))) (hi : ix xs i = some e) :
    ValOK P ⟨some d, .indexAddr t x y, ty, pos, af, gd⟩ E ρ H L h (.one (.q T e 0)) := by
  obtain ⟨i', F⟩ := htb.get ht
  obtain ⟨el, z, _, g1, _, g2, g3, _⟩ := F.elem T' he
  obtain ⟨av, h1, h2⟩ := ev_ok hs hx
  obtain ⟨u, rfl, h3⟩ := h2.one'
  obtain ⟨es, rfl, h4⟩ := h3.list
  obtain ⟨aw, k1, k2⟩ := ev_ok hs hy
  obtain ⟨u, rfl, k3⟩ := k2.one'
  cases k3.int
  obtain ⟨h5, h6⟩ := ix_some hi
  obtain ⟨e', h7, h8⟩ := h4.elem h6
  exact ⟨_, .one (.q (off := 0) h8), Abs.ar_indexImm F.tb h1 k1 g1 (g2.trans hsz) (hsz ▸ g3) h5 h7 hn ⟨rfl, rfl⟩⟩
theorem ok_indexO (htb : TBOK P tb) (hs : EncL ρ H D L) (hh : HpR ρ H h) (hn : d < E.n) {t id : Nat} {ti : TI} {x y : Operand} {n : Nat} {T T' : Ty} {xs : List (I T)} {i : Int} {e : I T} (ht : tb t = some ti) (he : ti.elem = some T') (hsz : szT T' = szT T) (hx : ev D x = some (.one (.o id))) (hr : H[id]? = some (.row T n xs)) (hy : ev D y = some (.one (.i i))) (hi : ix xs i = some e) :
    ValOK P ⟨some d, .indexAddr t x y, ty, pos, af, gd⟩ E ρ H L h (.one (.e id i.toNat n T e 0)) := by
  obtain ⟨i', F⟩ := htb.get ht
  obtain ⟨el, z, _, g1, _, g2, g3, _⟩ := F.elem T' he
  obtain ⟨av, h1, h2⟩ := ev_ok hs hx
  obtain ⟨u, rfl, h3⟩ := h2.one'
  obtain ⟨aw, k1, k2⟩ := ev_ok hs hy
  obtain ⟨u, rfl, k3⟩ := k2.one'
  cases k3.int
  obtain ⟨h5, h6⟩ := ix_some hi
  have hlt := (List.getElem?_eq_some_iff.1 h6).1
  rcases h3.own hr with ⟨a, rfl, h4⟩ | ⟨_, h4⟩
  · obtain ⟨es, h7, h8⟩ := hh.at_ h4 hr
    refine ⟨_, .one (.e (off := 0) h4 hr hlt (Nat.le_refl _) (fun _ => h6)), Abs.ar_indexOwn F.tb h1 k1 g1 h7 (g2.trans hsz) (hsz ▸ g3) h5 (by omega) hn ⟨?_, rfl⟩⟩
    simp [Abs.bindD]
  · rcases hh.row id n T xs hr with ⟨a', es, h7, _⟩ | ⟨_, h7⟩
    · rw [h4] at h7; cases h7
    · obtain ⟨h7, _⟩ := h7; subst h7; simp at hlt

theorem ok_pick (hs : EncL ρ H D L) (hn : d < E.n) {c a b : Operand} {p : Bool} {v : AT} (hc : ev D c = some (.one (.b p))) (hv : ev D (if p then a else b) = some v) : ValOK P ⟨some d, .pick c a b, ty, pos, af, gd⟩ E ρ H L h v := by
  obtain ⟨aw, k1, k2⟩ := ev_ok hs hc
  obtain ⟨u, rfl, k3⟩ := k2.one'
  cases k3.bool
  obtain ⟨av, h1, h2⟩ := ev_ok hs hv
  cases p with
  | true => exact ⟨av, h2, Abs.ar_pickT k1 rfl h1 hn ⟨rfl, rfl⟩⟩
  | false => exact ⟨av, h2, Abs.ar_pickF k1 rfl h1 hn ⟨rfl, rfl⟩⟩
theorem ok_not (hs : EncL ρ H D L) (hn : d < E.n) {t : TypeId} {x : Operand} {p : Bool} (hx : ev D x = some (.one (.b p))) : ValOK P ⟨some d, .unOp .not t x, ty, pos, af, gd⟩ E ρ H L h (.one (.b (!p))) := by
  obtain ⟨aw, k1, k2⟩ := ev_ok hs hx
  obtain ⟨u, rfl, k3⟩ := k2.one'
  cases k3.bool
  exact ⟨_, .one (.fl .b), Abs.ar_not k1 hn ⟨rfl, rfl⟩⟩
theorem ok_extract (hs : EncL ρ H D L) (hn : d < E.n) {x : Operand} {j : Nat} {xs : List AT} {v : AT} (hx : ev D x = some (.tup xs)) (hj : xs[j]? = some v) : ValOK P ⟨some d, .extract x j, ty, pos, af, gd⟩ E ρ H L h v := by
  obtain ⟨aw, k1, k2⟩ := ev_ok hs hx
  cases k2 with
  | tup hl hr =>
    obtain ⟨h1, rfl⟩ := List.getElem?_eq_some_iff.1 hj
    exact ⟨_, hr j h1 (by omega), Abs.ar_extract k1 (List.getElem?_eq_getElem (by omega)) hn ⟨rfl, rfl⟩⟩
theorem ok_nilP (hs : EncL ρ H D L) (hn : d < E.n) {x : Operand} {id off : Nat} (hx : ev D x = some (.one (.p id off))) : ValOK P ⟨some d, .nilCheck x, ty, pos, af, gd⟩ E ρ H L h (.one (.p id off)) := by
  obtain ⟨av, h1, h2⟩ := ev_ok hs hx
  obtain ⟨v, rfl, h3⟩ := h2.one'
  obtain ⟨a, rfl, h4⟩ := h3.ptr
  exact ⟨_, h2, Abs.ar_nilP h1 hn ⟨rfl, rfl⟩⟩
theorem ok_nilQ (hs : EncL ρ H D L) (hn : d < E.n) {x : Operand} {T : Ty} {y : I T} {off : Nat} (hx : ev D x = some (.one (.q T y off))) : ValOK P ⟨some d, .nilCheck x, ty, pos, af, gd⟩ E ρ H L h (.one (.q T y off)) := by
  obtain ⟨av, h1, h2⟩ := ev_ok hs hx
  obtain ⟨v, rfl, h3⟩ := h2.one'
  obtain ⟨vs, rfl, h4⟩ := h3.qptr
  exact ⟨_, h2, Abs.ar_nilI h1 hn ⟨rfl, rfl⟩⟩
theorem ok_u8 (htb : TBOK P tb) (hs : EncL ρ H D L) (hn : d < E.n) {t1 t : Nat} {ti t1i : TI} {x : Operand} {a : Int} (ht1 : tb t1 = some t1i) (ht : tb t = some ti) (hi : ti.i64 = true) (hx : ev D x = some (.one (.k .u8 a))) : ValOK P ⟨some d, .convert t1 t x, ty, pos, af, gd⟩ E ρ H L h (.one (.i a)) := by
  obtain ⟨i1, F1⟩ := htb.get ht1
  obtain ⟨i, F⟩ := htb.get ht
  obtain ⟨av, h1, h2⟩ := ev_ok hs hx
  obtain ⟨v, rfl, h3⟩ := h2.one'
  cases h3.kint
  have e1 := htb t1 t1i ht1
  obtain ⟨j1, e1, _⟩ := e1
  obtain ⟨j, e2, e3⟩ := htb t ti ht
  have hj : j.desc = .int .i64 := by
    simp only [tiOK, Bool.and_eq_true, Bool.or_eq_true, Bool.not_eq_true'] at e3
    obtain ⟨⟨⟨_, e3⟩, _⟩, _⟩ := e3
    rcases e3 with e3 | e3
    · rw [hi] at e3; cases e3
    · split at e3
      · assumption
      · cases e3
  have tbl : Abs.TbOK P ([(t1, j1), (t, j)] : Abs.Tbl) := Abs.tbOK_cons e1 (Abs.tbOK_cons e2 (Abs.tbOK_nil P))
  have l2 : ∃ j', List.lookup t ([(t1, j1), (t, j)] : Abs.Tbl) = some j' ∧ j'.desc = .int .i64 := by
    by_cases e : t = t1
    · subst e
      rw [e1] at e2
      cases e2
      exact ⟨j1, by simp, hj⟩
    · have e' : (t == t1) = false := by simpa using e
      exact ⟨j, by simp [List.lookup_cons, e'], hj⟩
  obtain ⟨j', l3, l4⟩ := l2
  exact ⟨_, .one (.fl .i), Abs.ar_convU8 tbl h1 (i := j1) (by simp) l3 l4 hn ⟨rfl, rfl⟩⟩
theorem ok_lenS (htb : TBOK P tb) (hs : EncL ρ H D L) (hn : d < E.n) {t : Nat} {ti : TI} {x : Operand} {s : ByteArray} (ht : tb t = some ti) (hst : ti.str = true) (hx : ev D x = some (.one (.s s))) :
    ValOK P ⟨some d, .call ⟨.builtin .len, #[x], #[t]⟩, ty, pos, af, gd⟩ E ρ H L h (.one (.i s.size)) := by
  obtain ⟨i, F⟩ := htb.get ht
  obtain ⟨av, h1, h2⟩ := ev_ok hs hx
  obtain ⟨v, rfl, h3⟩ := h2.one'
  cases h3.str
  exact ⟨_, .one (.fl .i), Abs.ar_lenStr F.tb h1 F.look (F.str hst) hn ⟨rfl, rfl⟩⟩
theorem lenC_ok (hh : HpR ρ H h) {c : C} {v : V} {n : Int} (hc : CR ρ H c v) (hl : lenC H c = some n) : ∃ m : Nat, n = m ∧ Abs.lenV v = some m := by
  cases c <;> simp only [lenC, Option.some.injEq, reduceCtorEq] at hl
  · subst hl
    obtain ⟨es, rfl, h4⟩ := hc.list
    cases h4 with
    | l _ hl _ _ => exact ⟨_, rfl, by simp [Abs.lenV, hl]⟩
  · subst hl
    cases hc with
    | fl h => cases h
    | lc h => cases h with | l _ hl _ _ => exact ⟨_, rfl, by simp [Abs.lenV, hl]⟩
  · subst hl
    cases hc with
    | fl h => cases h
    | nil _ => exact ⟨0, rfl, rfl⟩
  · split at hl
    · rename_i T n xs hr
      cases hl
      rcases hc.own hr with ⟨a, rfl, h4⟩ | ⟨rfl, h4⟩
      · exact ⟨_, rfl, rfl⟩
      · rcases hh.row _ n T xs hr with ⟨a', es, h7, _⟩ | ⟨_, h7⟩
        · rw [h4] at h7; cases h7
        · obtain ⟨h7, _⟩ := h7; subst h7; exact ⟨0, rfl, rfl⟩
    · cases hl
  · subst hl
    cases hc with
    | fl h => cases h
    | zs => exact ⟨0, rfl, rfl⟩
theorem ok_len (htb : TBOK P tb) (hs : EncL ρ H D L) (hh : HpR ρ H h) (hn : d < E.n) {t : Nat} {ti : TI} {T : Ty} {x : Operand} {c : C} {n : Int} (ht : tb t = some ti) (he : ti.elem = some T) (hx : ev D x = some (.one c)) (hl : lenC H c = some n) :
    ValOK P ⟨some d, .call ⟨.builtin .len, #[x], #[t]⟩, ty, pos, af, gd⟩ E ρ H L h (.one (.i n)) := by
  obtain ⟨i, F⟩ := htb.get ht
  obtain ⟨el, z, _, g1, _⟩ := F.elem T he
  obtain ⟨av, h1, h2⟩ := ev_ok hs hx
  obtain ⟨v, rfl, h3⟩ := h2.one'
  obtain ⟨m, rfl, h4⟩ := lenC_ok hh h3 hl
  exact ⟨_, .one (.fl .i), Abs.ar_len F.tb h1 h4 g1 hn ⟨rfl, rfl⟩⟩
theorem FR.sub {T : Ty} {xs : List (I T)} {es : List (List V)} (h : FR (.l T xs) (.imm (szT T) es)) (lo hi : Nat) : FR (.l T ((xs.take hi).drop lo)) (.imm (szT T) ((es.take hi).drop lo)) := by
  cases h with
  | l hp hl hs hr =>
    refine .l hp (by simp [hl]) (fun e he => hs e (List.mem_of_mem_take (List.mem_of_mem_drop he))) (fun m h1 h2 j h3 h4 => ?_)
    simp only [List.getElem_drop, List.getElem_take] at h3 h4 ⊢
    exact hr (lo + m) (by simp at h1; omega) (by simp at h2; omega) j h3 h4
theorem sub_some {α : Type} {xs ys : List α} {a b : Int} (h : sub xs a b = some ys) : 0 ≤ a ∧ a ≤ b ∧ b ≤ xs.length ∧ ys = (xs.take b.toNat).drop a.toNat := by
  unfold sub at h
  by_cases hc : (decide (0 ≤ a) && decide (a ≤ b) && decide (b ≤ (xs.length : Int))) = true
  · rw [hc] at h
    simp only [Bool.and_eq_true, decide_eq_true_eq] at hc
    cases h
    exact ⟨hc.1.1, hc.1.2, hc.2, rfl⟩
  · simp only [Bool.not_eq_true] at hc
    rw [hc] at h
    cases h
theorem ok_slice (htb : TBOK P tb) (hs : EncL ρ H D L) (hn : d < E.n) {t : Nat} {ti : TI} {x : Operand} {lo hi : Option Operand} {T T' : Ty} {xs ys : List (I T)} {a b : Int} (ht : tb t = some ti) (he : ti.elem = some T') (hsz : szT T' = szT T) (hx : ev D x = some (.one (.l T xs)))
    (hlo : (match lo with | some y => ev D y | none => some (.one (.i 0))) = some (.one (.i a))) (hhi : (match hi with | some y => ev D y | none => some (.one (.i xs.length))) = some (.one (.i b))) (hy : sub xs a b = some ys) :
    ValOK P ⟨some d, .slice t x lo hi none, ty, pos, af, gd⟩ E ρ H L h (.one (.l T ys)) := by
  obtain ⟨i', F⟩ := htb.get ht
  obtain ⟨el, z, _, g1, _, g2, g3, _⟩ := F.elem T' he
  obtain ⟨av, h1, h2⟩ := ev_ok hs hx
  obtain ⟨u, rfl, h3⟩ := h2.one'
  obtain ⟨es, rfl, h4⟩ := h3.list
  obtain ⟨s1, s2, s3, rfl⟩ := sub_some hy
  have hlen : es.length = xs.length := by cases h4 with | l _ hl _ _ => exact hl
  obtain ⟨a', rfl⟩ : ∃ a' : Nat, a = a' := ⟨a.toNat, by omega⟩
  obtain ⟨b', rfl⟩ : ∃ b' : Nat, b = b' := ⟨b.toNat, by omega⟩
  refine ⟨_, .one (.fl (h4.sub a' b')), Abs.ar_sliceImm (lo := a') (hi := b') (kl := .i64) (kh := .i64) F.tb h1 g1 (g2.trans hsz) (hsz ▸ g3) ?_ ?_ (by omega) (by omega) hn ⟨rfl, rfl⟩⟩
  · cases lo with
    | none => simp only [Option.some.injEq, AT.one.injEq, C.i.injEq] at hlo; exact .inl ⟨rfl, by omega⟩
    | some y =>
      obtain ⟨aw, k1, k2⟩ := ev_ok hs hlo
      obtain ⟨u, rfl, k3⟩ := k2.one'
      cases k3.int
      exact .inr ⟨y, rfl, k1⟩
  · cases hi with
    | none => simp only [Option.some.injEq, AT.one.injEq, C.i.injEq] at hhi; exact .inl ⟨rfl, by omega⟩
    | some y =>
      obtain ⟨aw, k1, k2⟩ := ev_ok hs hhi
      obtain ⟨u, rfl, k3⟩ := k2.one'
      cases k3.int
      exact .inr ⟨y, rfl, k1⟩

theorem ok_bin {R : Type} {r : R} (hs : EncL ρ H D L) (hn : d < E.n) {op : BinOp} {t1 t2 : TypeId} {x y : Operand} {a b : C} {K : C → Option R} (hx : ev D x = some (.one a)) (hy : ev D y = some (.one b)) (hbool : ∀ p, a = .b p → ∃ ti, tb t1 = some ti ∧ ti.bool = true) (htb : TBOK P tb) (hk : binP op a b K = some r) :
    ∃ c, K c = some r ∧ ValOK P ⟨some d, .binOp op t1 x y t2, ty, pos, af, gd⟩ E ρ H L h (.one c) := by
  obtain ⟨av, h1, h2⟩ := ev_ok hs hx
  obtain ⟨u, rfl, h3⟩ := h2.one'
  obtain ⟨aw, k1, k2⟩ := ev_ok hs hy
  obtain ⟨u', rfl, k3⟩ := k2.one'
  have sh : ∀ (m n : Int) (k : IntKind), a = .i m → u' = .lit (.int k n) → (op = .shl ∨ op = .shr) → (bif decide (0 ≤ n) then K (.i (Abs.bitsI op .i64 m n)) else none) = some r → ∃ c, K c = some r ∧ ValOK P ⟨some d, .binOp op t1 x y t2, ty, pos, af, gd⟩ E ρ H L h (.one c) := by
    rintro m n k rfl rfl ho hk
    cases h3.int
    cases hp : decide (0 ≤ n) with
    | false => rw [hp] at hk; cases hk
    | true =>
      rw [hp] at hk
      have hy0 : 0 ≤ n := by simpa using hp
      rcases ho with rfl | rfl
      · exact ⟨_, hk, _, .one (.fl .i), Abs.ar_shl h1 k1 hy0 hn ⟨rfl, rfl⟩⟩
      · exact ⟨_, hk, _, .one (.fl .i), Abs.ar_shr h1 k1 hy0 hn ⟨rfl, rfl⟩⟩
  have plain : ∀ c, binD op a b = some c → K c = some r → ∃ c, K c = some r ∧ ValOK P ⟨some d, .binOp op t1 x y t2, ty, pos, af, gd⟩ E ρ H L h (.one c) := by
    intro c hb hk
    unfold binD at hb
    split at hb
    · rename_i x y
      cases h3.int
      cases k3.int
      split at hb <;> first | (cases hb; done) | cases hb
      · exact ⟨_, hk, _, .one (.fl .i), Abs.ar_arith (op := .add) rfl h1 k1 hn ⟨rfl, rfl⟩⟩
      · exact ⟨_, hk, _, .one (.fl .i), Abs.ar_arith (op := .sub) rfl h1 k1 hn ⟨rfl, rfl⟩⟩
      · exact ⟨_, hk, _, .one (.fl .i), Abs.ar_arith (op := .mul) rfl h1 k1 hn ⟨rfl, rfl⟩⟩
      · exact ⟨_, hk, _, .one (.fl .b), Abs.ar_cmp (op := .lss) rfl h1 k1 hn ⟨rfl, rfl⟩⟩
      · exact ⟨_, hk, _, .one (.fl .b), Abs.ar_cmp (op := .leq) rfl h1 k1 hn ⟨rfl, rfl⟩⟩
      · exact ⟨_, hk, _, .one (.fl .b), Abs.ar_cmp (op := .gtr) rfl h1 k1 hn ⟨rfl, rfl⟩⟩
      · exact ⟨_, hk, _, .one (.fl .b), Abs.ar_cmp (op := .geq) rfl h1 k1 hn ⟨rfl, rfl⟩⟩
      · exact ⟨_, hk, _, .one (.fl .b), Abs.ar_cmp (op := .eql) rfl h1 k1 hn ⟨rfl, rfl⟩⟩
      · exact ⟨_, hk, _, .one (.fl .b), Abs.ar_cmp (op := .neq) rfl h1 k1 hn ⟨rfl, rfl⟩⟩
      · exact ⟨_, hk, _, .one (.fl .i), Abs.ar_bits (op := .and) rfl h1 k1 hn ⟨rfl, rfl⟩⟩
      · exact ⟨_, hk, _, .one (.fl .i), Abs.ar_bits (op := .or) rfl h1 k1 hn ⟨rfl, rfl⟩⟩
      · exact ⟨_, hk, _, .one (.fl .i), Abs.ar_bits (op := .xor) rfl h1 k1 hn ⟨rfl, rfl⟩⟩
      · exact ⟨_, hk, _, .one (.fl .i), Abs.ar_bits (op := .andNot) rfl h1 k1 hn ⟨rfl, rfl⟩⟩
    · rename_i x y
      cases h3.bool
      cases k3.bool
      obtain ⟨ti, ht, hi⟩ := hbool x rfl
      obtain ⟨i, F⟩ := htb.get ht
      split at hb <;> first | (cases hb; done) | cases hb
      · exact ⟨_, hk, _, .one (.fl .b), Abs.ar_eqB (op := .eql) F.tb rfl F.look (F.bool hi) h1 k1 hn ⟨rfl, rfl⟩⟩
      · exact ⟨_, hk, _, .one (.fl .b), Abs.ar_eqB (op := .neq) F.tb rfl F.look (F.bool hi) h1 k1 hn ⟨rfl, rfl⟩⟩
    · cases hb
  unfold binP at hk
  split at hk
  · rename_i x y
    cases h3.int
    cases k3.int
    cases hp : (decide (0 ≤ x) && decide (0 < y)) with
    | false => rw [hp] at hk; cases hk
    | true =>
      rw [hp] at hk
      simp only [Bool.and_eq_true, decide_eq_true_eq] at hp
      exact ⟨_, hk, _, .one (.fl .i), Abs.ar_quo h1 k1 hp.1 hp.2 hn ⟨rfl, rfl⟩⟩
  · rename_i x y
    cases h3.int
    cases k3.int
    cases hp : (decide (0 ≤ x) && decide (0 < y)) with
    | false => rw [hp] at hk; cases hk
    | true =>
      rw [hp] at hk
      simp only [Bool.and_eq_true, decide_eq_true_eq] at hp
      exact ⟨_, hk, _, .one (.fl .i), Abs.ar_rem h1 k1 hp.1 hp.2 hn ⟨rfl, rfl⟩⟩
  · exact sh _ _ _ rfl k3.int (.inl rfl) hk
  · exact sh _ _ _ rfl k3.int (.inr rfl) hk
  · exact sh _ _ _ rfl k3.kint (.inl rfl) hk
  · exact sh _ _ _ rfl k3.kint (.inr rfl) hk
  · split at hk
    · rename_i c hb
      exact plain c hb hk
    · cases hk

theorem two_tb {t u : Nat} {i j : Abs.TyI} (h1 : Abs.tyOf P t = some i) (h2 : Abs.tyOf P u = some j) : ∃ T : Abs.Tbl, Abs.TbOK P T ∧ T.lookup t = some i ∧ T.lookup u = some j := by
  refine ⟨[(t, i), (u, j)], Abs.tbOK_cons h1 (Abs.tbOK_cons h2 (Abs.tbOK_nil P)), by simp, ?_⟩
  by_cases e : u = t
  · subst e
    rw [h1] at h2
    cases h2
    simp
  · have e' : (u == t) = false := by simpa using e
    simp [List.lookup_cons, e']
theorem ok_part (htb : TBOK P tb) (hs : EncL ρ H D L) (hn : d < E.n) {t f fo ft sz : Nat} {ti fi : TI} {x : Operand} {cs : List C} {v : AT} (ht : tb t = some ti) (hx : ev D x = some (.agg cs)) (hf : ti.fields[f]? = some (fo, ft, sz)) (hft : tb ft = some fi) (hl : ld fi.agg fi.size (cs.drop fo) = some v) :
    ValOK P ⟨some d, .field t x f, ty, pos, af, gd⟩ E ρ H L h v := by
  obtain ⟨i, F⟩ := htb.get ht
  obtain ⟨j, G⟩ := htb.get hft
  obtain ⟨av, h1, h2⟩ := ev_ok hs hx
  obtain ⟨vs, rfl, h3⟩ := h2.agg'
  obtain ⟨h5, h6⟩ := F.field f fo ft sz hf
  obtain ⟨av, h8, h9⟩ := ld_ok hl (h3.drop fo)
  obtain ⟨T, g1, g2, g3⟩ := two_tb F.ty G.ty
  exact ⟨av, h9, Abs.ar_part g1 h1 g2 h5 g3 (by rw [G.size, G.agg]; exact h8) hn ⟨rfl, rfl⟩⟩

theorem cells_ok {v : AT} {av : AV} {cs : List C} (h : cells v = some cs) (hr : ATR ρ H v av) : ∃ vs, av.cells = some vs ∧ CRs ρ H cs vs := by
  cases hr with
  | one k => cases h; exact ⟨_, rfl, .cons k .nil_⟩
  | agg k => cases h; exact ⟨_, rfl, k⟩
  | tup _ _ => cases h
inductive PartsR (ρ : Rho) (H : List Ob) : List (Nat × List C) → List (Nat × List V) → Prop
  | nil : PartsR ρ H [] []
  | cons {i : Nat} {cs : List C} {vs : List V} {ps : List (Nat × List C)} {qs : List (Nat × List V)} (h : CRs ρ H cs vs) (k : PartsR ρ H ps qs) : PartsR ρ H ((i, cs) :: ps) ((i, vs) :: qs)
theorem evParts_ok (hs : EncL ρ H D L) : ∀ {parts : List (Nat × Operand)} {ps : List (Nat × List C)}, evParts D parts = some ps → ∃ qs, Abs.evParts L parts = some qs ∧ PartsR ρ H ps qs
  | [], ps, h => by cases h; exact ⟨[], rfl, .nil⟩
  | (i, x) :: rest, ps, h => by
    simp only [evParts] at h
    split at h
    · rename_i vs qs h1 h2
      cases h
      cases hx : ev D x with
      | none => rw [hx] at h1; cases h1
      | some v =>
        rw [hx] at h1
        obtain ⟨av, k1, k2⟩ := ev_ok hs hx
        obtain ⟨us, k3, k4⟩ := cells_ok h1 k2
        obtain ⟨rs, k5, k6⟩ := evParts_ok hs h2
        refine ⟨(i, us) :: rs, ?_, .cons k4 k6⟩
        simp only [Abs.evParts, k1, Option.bind_some, k3, k5]
    · cases h
theorem CRs.splice {cs ds : List C} {vs us : List V} (h : CRs ρ H cs vs) (k : CRs ρ H ds us) (off : Nat) : CRs ρ H (splice cs off ds) (Abs.splice vs off us) := by
  unfold Den.splice Abs.splice
  rw [k.1]
  exact (h.take off).app (k.app (h.drop _))
theorem fill_ok {place : Nat → Option (Nat × Nat)} {ps : List (Nat × List C)} {qs : List (Nat × List V)} (hp : PartsR ρ H ps qs) : ∀ {cs : List C} {vs : List V} {out : List C}, CRs ρ H cs vs → fillC place cs ps = some out → ∃ us, Abs.fillV place vs qs = some us ∧ CRs ρ H out us := by
  induction hp with
  | nil => intro cs vs out h k; cases k; exact ⟨vs, rfl, h⟩
  | @cons i ds us ps qs hd hp ih =>
    intro cs vs out h k
    simp only [fillC] at k
    split at k
    · rename_i off size hpl
      split at k
      · rename_i hc
        simp only [Bool.and_eq_true] at hc
        have c1 := Nat.eq_of_beq_eq_true hc.1
        have c2 := Nat.le_of_ble_eq_true hc.2
        obtain ⟨zs, k1, k2⟩ := ih (h.splice hd off) k
        refine ⟨zs, ?_, k2⟩
        simp only [Abs.fillV, hpl]
        rw [if_pos]
        · exact k1
        · rw [hd.1] at c1 c2
          rw [h.1] at c2
          simp [c1]
          omega
      · cases k
    · cases k
theorem int_zero_ok (k : IntKind) : Abs.okLitB (.int k 0) = true := by cases k <;> decide
theorem zero_ok {v : Value} {c : C} (h : zeroOK v c = true) : Abs.okLitB v = true ∧ CR ρ H c (.lit v) := by
  unfold zeroOK at h
  split at h
  · exact ⟨int_zero_ok _, .fl .i⟩
  · simp only [beq_iff_eq] at h
    subst h
    exact ⟨int_zero_ok _, .fl .k⟩
  · exact ⟨rfl, .fl .b⟩
  · rename_i x y
    simp only [Bool.and_eq_true, beq_iff_eq] at h
    have e : x = y := by
      have e1 : x.data = #[] := Array.eq_empty_of_size_eq_zero h.1
      have e2 : y.data = #[] := Array.eq_empty_of_size_eq_zero h.2
      cases x
      cases y
      simp only at e1 e2
      rw [e1, e2]
    subst e
    exact ⟨by simp [Abs.okLitB, h.1], .fl .s⟩
  · exact ⟨rfl, .nil (by simpa [Nat.blt_eq] using h)⟩
  · exact ⟨rfl, .zP⟩
  · exact ⟨rfl, .zM⟩
  · exact ⟨rfl, .zF⟩
  · cases h
theorem zeros_ok : ∀ {vs : List Value} {cs : List C}, zerosOK vs cs = true → vs.all Abs.okLitB = true ∧ CRs ρ H cs (vs.map V.lit)
  | [], [], _ => ⟨rfl, .nil_⟩
  | [], _ :: _, h => by cases h
  | _ :: _, [], h => by cases h
  | v :: vs, c :: cs, h => by
    simp only [zerosOK, Bool.and_eq_true] at h
    obtain ⟨h1, h2⟩ := zeros_ok h.2
    have key := zero_ok (ρ := ρ) (H := H) h.1
    exact ⟨by simp [key.1, h1], .cons key.2 h2⟩
theorem ok_build (htb : TBOK P tb) (hs : EncL ρ H D L) (hn : d < E.n) {t : Nat} {ti : TI} {parts : List (Nat × Operand)} {ps : List (Nat × List C)} {cs : List C} (ht : tb t = some ti) (hp : evParts D parts = some ps) (hne : ti.fields ≠ []) (hf : fillC (fun k => (ti.fields[k]?).map fun f => (f.1, f.2.2)) ti.zero ps = some cs) :
    ValOK P ⟨some d, .build t parts.toArray, ty, pos, af, gd⟩ E ρ H L h (.agg cs) := by
  obtain ⟨i, F⟩ := htb.get ht
  obtain ⟨qs, h1, h2⟩ := evParts_ok hs hp
  obtain ⟨z1, z2⟩ := zeros_ok (ρ := ρ) (H := H) F.zero
  obtain ⟨us, h3, h4⟩ := fill_ok h2 z2 hf
  exact ⟨_, .agg h4, Abs.ar_build F.tb h1 F.look z1 F.zne (by rw [F.fields]; exact hne) (by rw [F.fields]; exact h3) F.fpos hn ⟨rfl, rfl⟩⟩

theorem VR.immc_imm {I : Nat → Prop} {w : World} {ι : List Abs.Inf} {s : Nat} {es : List (List V)} {c : Value} (h : Abs.VR I w ι (.immc s es) c) : Abs.VR I w ι (.imm s es) c := by
  cases h with
  | immc0 => exact .imm0 (Nat.zero_le _)
  | immc hs hm hI hcell hr => exact .imm hs (Nat.le_refl _) hm hI hcell hr
/-- A cell, looked at: what it says of the value. -/
def Lent (E : Abs.Cx) (L : Env) (h : Heap) (v v' : V) : Prop := ∀ ι I a w, Abs.Rel E L h ι I a w → ∀ u, Abs.VR I w ι v u → Abs.VR (fun b => b < w.heap.size) w [] v' u
theorem lent_flat {v : V} (hf : v.flat = true) : Lent E L h v v := fun _ _ _ _ r _ hv => (hv.free (ι' := []) hf).keep (Abs.Grows.refl _) ⟨r.imm, fun _ _ _ => rfl⟩
theorem peek_ok (hh : HpR ρ H h) {c c' : C} {v : V} (hp : peek H c = some c') (hc : CR ρ H c v) : ∃ v', CR [] [] c' v' ∧ v'.flat = true ∧ Lent E L h v v' := by
  cases c <;> simp only [peek, Option.some.injEq, reduceCtorEq] at hp
  · subst hp; cases hc.int; exact ⟨_, .fl .i, rfl, lent_flat rfl⟩
  · subst hp; cases hc.kint; exact ⟨_, .fl .k, rfl, lent_flat rfl⟩
  · subst hp; cases hc.bool; exact ⟨_, .fl .b, rfl, lent_flat rfl⟩
  · subst hp; cases hc.str; exact ⟨_, .fl .s, rfl, lent_flat rfl⟩
  · subst hp
    obtain ⟨es, rfl, h4⟩ := hc.list
    exact ⟨_, .fl h4, rfl, lent_flat rfl⟩
  · subst hp
    cases hc with
    | fl h => cases h
    | lc k => exact ⟨_, .fl k, rfl, fun ι I a w r u hv => VR.immc_imm (lent_flat (E := E) (L := L) (h := h) rfl ι I a w r u hv)⟩
  · subst hp
    cases hc with
    | fl h => cases h
    | nil k => exact ⟨_, .fl (.nil_ k), rfl, fun ι I a w r u hv => by cases hv; exact .imm0 (Nat.zero_le _)⟩
  · split at hp
    · rename_i T n xs hr
      cases hp
      rcases hc.own hr with ⟨a, rfl, h4⟩ | ⟨rfl, h4⟩
      · obtain ⟨es, h5, h6⟩ := hh.at_ h4 hr
        refine ⟨_, .fl h6, rfl, fun ι I a' w r u hv => ?_⟩
        have hl : es.length = xs.length := by cases h6 with | l _ hl _ _ => exact hl
        have := Abs.VR.lend r h5 h6.flats (by omega) hv
        rw [List.drop_zero, List.take_of_length_le (by omega)] at this
        exact this
      · rcases hh.row _ n T xs hr with ⟨a', es, h7, _⟩ | ⟨_, h7, h8⟩
        · rw [h4] at h7; cases h7
        · subst h7
          exact ⟨_, .fl (.nil_ h8), rfl, fun ι I a w r u hv => by cases hv; exact .imm0 (Nat.zero_le _)⟩
    · cases hp
  · subst hp
    cases hc with
    | fl h => cases h
    | zs => exact ⟨_, .zs, rfl, lent_flat rfl⟩
def LentA (E : Abs.Cx) (L : Env) (h : Heap) (v v' : AV) : Prop := ∀ ι I a w, Abs.Rel E L h ι I a w → ∀ u, Abs.AR ι I w v u → Abs.AR [] (fun b => b < w.heap.size) w v' u
theorem peeks_ok (hh : HpR ρ H h) : ∀ {cs ds : List C} {vs : List V}, peeks H cs = some ds → CRs ρ H cs vs → ∃ us, CRs [] [] ds us ∧ us.all V.flat = true ∧ vs.length = us.length ∧ ∀ (j : Nat) (h1 : j < vs.length) (h2 : j < us.length), Lent E L h vs[j] us[j]
  | [], ds, vs, hp, hc => by
    cases hp
    have := hc.1
    cases vs with
    | nil => exact ⟨[], .nil_, rfl, rfl, fun j h => by simp at h⟩
    | cons _ _ => simp at this
  | c :: cs, ds, vs, hp, hc => by
    simp only [peeks] at hp
    split at hp
    · rename_i d' ds' h1 h2
      cases hp
      cases vs with
      | nil => have := hc.1; simp at this
      | cons v vs =>
        obtain ⟨u, k1, k2, k3⟩ := peek_ok (E := E) (L := L) hh h1 (hc.2 0 (by simp) (by simp))
        obtain ⟨us, m1, m2, m3, m4⟩ := peeks_ok hh h2 (vs := vs) ⟨by have := hc.1; simpa using this, fun j a b => hc.2 (j + 1) (by simpa using a) (by simpa using b)⟩
        refine ⟨u :: us, .cons k1 m1, by simp [k2, m2], by simp [m3], fun j a b => ?_⟩
        cases j with
        | zero => exact k3
        | succ j => exact m4 j (by simpa using a) (by simpa using b)
    · cases hp
theorem peekA_ok (hh : HpR ρ H h) {x y : AT} {av : AV} (hp : peekA H x = some y) (hr : ATR ρ H x av) : ∃ bv, ATR [] [] y bv ∧ bv.flat = true ∧ LentA E L h av bv := by
  cases hr with
  | @one c v k =>
    simp only [peekA, Option.map_eq_some_iff] at hp
    obtain ⟨c', h1, rfl⟩ := hp
    obtain ⟨v', k1, k2, k3⟩ := peek_ok (E := E) (L := L) hh h1 k
    exact ⟨_, .one k1, k2, fun ι I a w r u hu => by cases hu with | one hu => exact .one (k3 ι I a w r u hu)⟩
  | @agg cs vs k =>
    simp only [peekA, Option.map_eq_some_iff] at hp
    obtain ⟨ds, h1, rfl⟩ := hp
    obtain ⟨us, k1, k2, k3, k4⟩ := peeks_ok (E := E) (L := L) hh h1 k
    refine ⟨_, .agg k1, k2, fun ι I a w r u hu => ?_⟩
    cases hu with
    | agg hl hcs hr => exact .agg (by rw [hl, k3]) (fun j hj => hcs j (by omega)) (fun j hj => k4 j (by omega) hj ι I a w r _ (hr j (by omega)))
  | tup _ _ => cases hp
theorem evs_ok (hs : EncL ρ H D L) : ∀ {ops : List Operand} {xs : List AT}, evs D ops = some xs → ∃ avs, Abs.evs L ops = some avs ∧ xs.length = avs.length ∧ ∀ (j : Nat) (h1 : j < xs.length) (h2 : j < avs.length), ATR ρ H xs[j] avs[j]
  | [], xs, h => by cases h; exact ⟨[], rfl, rfl, fun j h => by simp at h⟩
  | x :: ops, xs, h => by
    simp only [evs] at h
    split at h
    · rename_i v vs h1 h2
      cases h
      obtain ⟨av, k1, k2⟩ := ev_ok hs h1
      obtain ⟨avs, k3, k4, k5⟩ := evs_ok hs h2
      refine ⟨av :: avs, by simp only [Abs.evs, k1, k3], by simp [k4], fun j a b => ?_⟩
      cases j with
      | zero => exact k2
      | succ j => exact k5 j (by simpa using a) (by simpa using b)
    · cases h
theorem peekAs_ok (hh : HpR ρ H h) : ∀ {xs ys : List AT} {avs : List AV}, peekAs H xs = some ys → xs.length = avs.length → (∀ (j : Nat) (h1 : j < xs.length) (h2 : j < avs.length), ATR ρ H xs[j] avs[j]) →
    ∃ bvs, ys.length = bvs.length ∧ (∀ (j : Nat) (h1 : j < ys.length) (h2 : j < bvs.length), ATR [] [] ys[j] bvs[j]) ∧ Abs.AV.flats bvs = true ∧ avs.length = bvs.length ∧ ∀ (j : Nat) (h1 : j < avs.length) (h2 : j < bvs.length), LentA E L h avs[j] bvs[j]
  | [], ys, avs, hp, hl, hr => by
    cases hp
    cases avs with
    | nil => exact ⟨[], rfl, fun j h => by simp at h, rfl, rfl, fun j h => by simp at h⟩
    | cons _ _ => simp at hl
  | x :: xs, ys, avs, hp, hl, hr => by
    simp only [peekAs] at hp
    split at hp
    · rename_i y ys' h1 h2
      cases hp
      cases avs with
      | nil => simp at hl
      | cons av avs =>
        obtain ⟨bv, k1, k2, k3⟩ := peekA_ok (E := E) (L := L) hh h1 (hr 0 (by simp) (by simp))
        obtain ⟨bvs, m1, m2, m3, m4, m5⟩ := peekAs_ok hh h2 (avs := avs) (by simpa using hl) (fun j a b => hr (j + 1) (by simpa using a) (by simpa using b))
        refine ⟨bv :: bvs, by simp [m1], fun j a b => ?_, by simp [Abs.AV.flats, k2, m3], by simp [m4], fun j a b => ?_⟩
        · cases j with
          | zero => exact k1
          | succ j => exact m2 j (by simpa using a) (by simpa using b)
        · cases j with
          | zero => exact k3
          | succ j => exact m5 j (by simpa using a) (by simpa using b)
    · cases hp

theorem scal_ar {ρ0 : Rho} {H0 : List Ob} {c : C} {v : V} (hs : scal c = true) (hc : CR ρ0 H0 c v) : ∃ u, v = .lit u := by
  cases c <;> simp only [scal, reduceCtorEq] at hs
  · exact ⟨_, hc.int⟩
  · exact ⟨_, hc.kint⟩
  · exact ⟨_, hc.bool⟩
  · exact ⟨_, hc.str⟩
theorem lit_ar {ι ι' : List Abs.Inf} {I I' : Nat → Prop} {w w' : World} {u c : Value} (h : Abs.VR I w ι (.lit u) c) : Abs.VR I' w' ι' (.lit u) c := by
  cases h with | lit h => exact .lit h
theorem scals_mem : ∀ {xs : List AT}, AT.scal.scals xs = true → ∀ x ∈ xs, x.scal = true
  | [], _, x, hx => by simp at hx
  | y :: xs, h, x, hx => by
    simp only [AT.scal.scals, Bool.and_eq_true] at h
    rcases List.mem_cons.1 hx with rfl | hx
    · exact h.1
    · exact scals_mem h.2 x hx
theorem scal_ok {ρ0 : Rho} {H0 : List Ob} {v : AT} {av : AV} (h : ATR ρ0 H0 v av) (hs : v.scal = true) : ∀ ι I w ι' I' w' c, Abs.AR ι I w av c → Abs.AR ι' I' w' av c := by
  induction h with
  | one k =>
    obtain ⟨u, rfl⟩ := scal_ar (by simpa [AT.scal] using hs) k
    intro ι I w ι' I' w' c hc
    cases hc with | one hc => exact .one (lit_ar hc)
  | @agg cs vs k =>
    intro ι I w ι' I' w' c hc
    have hs : cs.all scal = true := by simpa [AT.scal] using hs
    cases hc with
    | agg hl hcs hr =>
      refine .agg hl hcs (fun j hj => ?_)
      have hj' : j < cs.length := by rw [k.1]; exact hj
      obtain ⟨u, e⟩ := scal_ar (List.all_eq_true.1 hs _ (List.getElem_mem hj')) (k.2 j hj' hj)
      have := hr j hj
      rw [e] at this ⊢
      exact lit_ar this
  | @tup xs ys hl hr ih =>
    intro ι I w ι' I' w' c hc
    have hs := scals_mem (by simpa [AT.scal] using hs : AT.scal.scals xs = true)
    cases hc with
    | tup hl' hcs hr' => exact .tup hl' hcs (fun j hj => ih j (by omega) hj (hs _ (List.getElem_mem (by omega))) _ _ _ _ _ _ _ (hr' j hj))
theorem CR.up {ρ0 : Rho} {H0 : List Ob} {c : C} {v : V} (hf : flatC c = true) (h : CR ρ0 H0 c v) : CR ρ H c v := by
  cases c <;> simp only [flatC, reduceCtorEq] at hf <;> (cases h with | fl h => exact .fl h)
theorem flatA_mem : ∀ {xs : List AT}, AT.flat.flatA xs = true → ∀ x ∈ xs, x.flat = true
  | [], _, x, hx => by simp at hx
  | y :: xs, h, x, hx => by
    simp only [AT.flat.flatA, Bool.and_eq_true] at h
    rcases List.mem_cons.1 hx with rfl | hx
    · exact h.1
    · exact flatA_mem h.2 x hx
theorem ATR.up {ρ0 : Rho} {H0 : List Ob} {v : AT} {av : AV} (h : ATR ρ0 H0 v av) (hf : v.flat = true) : ATR ρ H v av := by
  induction h with
  | one k => exact .one (k.up (by simpa [AT.flat] using hf))
  | @agg cs vs k =>
    have hf : cs.all flatC = true := by simpa [AT.flat] using hf
    exact .agg ⟨k.1, fun j h1 h2 => (k.2 j h1 h2).up (List.all_eq_true.1 hf _ (List.getElem_mem h1))⟩
  | @tup xs ys hl hr ih =>
    have hf := flatA_mem (by simpa [AT.flat] using hf : AT.flat.flatA xs = true)
    exact .tup hl (fun j h1 h2 => ih j h1 h2 (hf _ (List.getElem_mem h1)))

theorem peek0_ok {c c' : C} {v : V} (hp : peek [] c = some c') (hc : CR ρ H c v) : ∃ v', CR [] [] c' v' ∧ v'.flat = true ∧ ∀ I w ι u, Abs.VR I w ι v u → Abs.VR I w ι v' u := by
  cases c <;> simp only [peek, Option.some.injEq, reduceCtorEq, List.getElem?_nil] at hp
  · subst hp; cases hc.int; exact ⟨_, .fl .i, rfl, fun _ _ _ _ h => h⟩
  · subst hp; cases hc.kint; exact ⟨_, .fl .k, rfl, fun _ _ _ _ h => h⟩
  · subst hp; cases hc.bool; exact ⟨_, .fl .b, rfl, fun _ _ _ _ h => h⟩
  · subst hp; cases hc.str; exact ⟨_, .fl .s, rfl, fun _ _ _ _ h => h⟩
  · subst hp
    obtain ⟨es, rfl, h4⟩ := hc.list
    exact ⟨_, .fl h4, rfl, fun _ _ _ _ h => h⟩
  · subst hp
    cases hc with
    | fl h => cases h
    | lc k => exact ⟨_, .fl k, rfl, fun _ _ _ _ h => VR.immc_imm h⟩
  · subst hp
    cases hc with
    | fl h => cases h
    | nil k => exact ⟨_, .fl (.nil_ k), rfl, fun _ _ _ _ hv => by cases hv; exact .imm0 (Nat.zero_le _)⟩
  · subst hp
    cases hc with
    | fl h => cases h
    | zs => exact ⟨_, .zs, rfl, fun _ _ _ _ h => h⟩

theorem peeks0_ok : ∀ {cs ds : List C} {vs : List V}, peeks [] cs = some ds → CRs ρ H cs vs → ∃ us, CRs [] [] ds us ∧ us.all V.flat = true ∧ vs.length = us.length ∧ ∀ (j : Nat) (h1 : j < vs.length) (h2 : j < us.length), ∀ I w ι u, Abs.VR I w ι vs[j] u → Abs.VR I w ι us[j] u
  | [], ds, vs, hp, hc => by
    cases hp
    have := hc.1
    cases vs with
    | nil => exact ⟨[], .nil_, rfl, rfl, fun j h => by simp at h⟩
    | cons _ _ => simp at this
  | c :: cs, ds, vs, hp, hc => by
    simp only [peeks] at hp
    split at hp
    · rename_i d' ds' h1 h2
      cases hp
      cases vs with
      | nil => have := hc.1; simp at this
      | cons v vs =>
        obtain ⟨u, k1, k2, k3⟩ := peek0_ok h1 (hc.2 0 (by simp) (by simp))
        obtain ⟨us, m1, m2, m3, m4⟩ := peeks0_ok h2 (vs := vs) ⟨by have := hc.1; simpa using this, fun j a b => hc.2 (j + 1) (by simpa using a) (by simpa using b)⟩
        refine ⟨u :: us, .cons k1 m1, by simp [k2, m2], by simp [m3], fun j a b => ?_⟩
        cases j with
        | zero => exact k3
        | succ j => exact m4 j (by simpa using a) (by simpa using b)
    · cases hp
theorem peekA0_ok {x y : AT} {av : AV} (hp : peekA [] x = some y) (hr : ATR ρ H x av) : ∃ bv, ATR [] [] y bv ∧ bv.flat = true ∧ ∀ ι I w u, Abs.AR ι I w av u → Abs.AR ι I w bv u := by
  cases hr with
  | @one c v k =>
    simp only [peekA, Option.map_eq_some_iff] at hp
    obtain ⟨c', h1, rfl⟩ := hp
    obtain ⟨v', k1, k2, k3⟩ := peek0_ok h1 k
    exact ⟨_, .one k1, k2, fun ι I w u hu => by cases hu with | one hu => exact .one (k3 I w ι u hu)⟩
  | @agg cs vs k =>
    simp only [peekA, Option.map_eq_some_iff] at hp
    obtain ⟨ds, h1, rfl⟩ := hp
    obtain ⟨us, k1, k2, k3, k4⟩ := peeks0_ok h1 k
    refine ⟨_, .agg k1, k2, fun ι I w u hu => ?_⟩
    cases hu with
    | agg hl hcs hr => exact .agg (by rw [hl, k3]) (fun j hj => hcs j (by omega)) (fun j hj => k4 j (by omega) hj I w ι _ (hr j (by omega)))
  | tup _ _ => cases hp
end
end Go.Proofs.Ytagnfckihdlhpaa.Den

/-
  den's operations that make own objects or change them are right.
-/
namespace Go.Proofs.Ytagnfckihdlhpaa.Den
open Go.RowKit
open Abs (V AV Env Heap ar)

def Post (F : In) (H : List Ob) (ρ : Rho) (dst : Option Nat) (L : Env) (v : AT) (H' : List Ob) : Env → Heap → Prop := fun L2 h2 => ∃ ρ' av, L2 = Abs.bindD dst av L ∧ ATR ρ' H' v av ∧ HpR ρ' H' h2 ∧ Ev ρ H ρ' H' ∧ Fr F ρ' H' h2
/-- What an operation does, in den's words. -/
def OpOK (P : Program) (o : Oper) (E : Abs.Cx) (F : In) (D : List (Nat × AT)) (H : List Ob) (v : AT) (H' : List Ob) : Prop :=
  ∀ ρ L h, EncL ρ H D L → HpR ρ H h → Fr F ρ H h → ar P o E (Post F H ρ o.dst L v H') L h

section
variable {P : Program} {E : Abs.Cx} {F : In} {ρ : Rho} {H : List Ob} {h : Heap} {L : Env} {o : Oper}

theorem ar_mono {K K' : Env → Heap → Prop} (hh : ar P o E K L h) (hk : ∀ L2 h2, K L2 h2 → K' L2 h2) : ar P o E K' L h :=
  ⟨fun Lf ι I a w r => Abs.wp_mono2 (fun _ _ ⟨_, _, ι', I', k, r'⟩ => ⟨_, _, ι', I', hk _ _ k, r'⟩) (fun _ _ _ f => f) (hh.get Lf ι I a w r)⟩
theorem ar_post {K K' : Env → Heap → Prop} (hh : ar P o E K L h) (hk : ∀ L2 h2, K L2 h2 → ∃ L3 h3, K' L3 h3 ∧ ∀ Lf, Abs.Shift (L2 ++ Lf) h2 (L3 ++ Lf) h3) : ar P o E K' L h :=
  ⟨fun Lf ι I a w r => Abs.wp_mono2 (fun a' w' ⟨_, _, ι', I', k, r'⟩ => let ⟨L3, h3, k', sh⟩ := hk _ _ k; let ⟨I2, r2⟩ := (sh Lf).get E ι' I' a' w' r'; ⟨L3, h3, ι', I2, k', r2⟩) (fun _ _ _ f => f) (hh.get Lf ι I a w r)⟩
theorem val_op {D : List (Nat × AT)} {v : AT} (hh : ∀ ρ L h, EncL ρ H D L → HpR ρ H h → ValOK P o E ρ H L h v) : OpOK P o E F D H v H := fun ρ L h hs hp hf => by
  obtain ⟨av, h1, h2⟩ := hh ρ L h hs hp
  exact ar_mono h2 fun L2 h2 ⟨e1, e2⟩ => ⟨ρ, av, e1, h1, e2 ▸ hp, Ev.refl _ _, e2 ▸ hf⟩

/-- A new object. -/
theorem get_app2 {α : Type} {l : List α} {x y : α} {id : Nat} (h : (l ++ [x])[id]? = some y) : (id < l.length ∧ l[id]? = some y) ∨ (id = l.length ∧ x = y) := by
  rcases Nat.lt_trichotomy id l.length with h1 | h1 | h1
  · rw [List.getElem?_append_left h1] at h; exact .inl ⟨h1, h⟩
  · subst h1; simp at h; exact .inr ⟨rfl, h⟩
  · rw [List.getElem?_eq_none (by simp; omega)] at h; cases h
theorem app_get {α : Type} {l : List α} {x y : α} {id : Nat} (h : l[id]? = some y) : (l ++ [x])[id]? = some y := by
  rw [List.getElem?_append_left (List.getElem?_eq_some_iff.1 h).1]; exact h
theorem Ev.push (x : Option Nat) (y : Ob) : Ev ρ H (ρ ++ [x]) (H ++ [y]) := ⟨fun _ _ h => app_get h, fun _ x h => ⟨x, app_get h, evo.refl x⟩⟩
def obR (ρ : Rho) (H : List Ob) : Ob → Option Abs.Ob → Prop
  | .row T _ xs, y => ∃ es, y = some (.row (szT T) es) ∧ FR (.l T xs) (.imm (szT T) es)
  | .box cs, y => ∃ vs : List V, y = some (.row vs.length [vs]) ∧ CRs ρ H cs vs
  | .map T kvs, y => ∃ ws, y = some (.map ws) ∧ kvs.length = ws.length ∧ 0 < szT T ∧ ∀ (j : Nat) (h1 : j < kvs.length) (h2 : j < ws.length), kvs[j].1 = ws[j].1 ∧ FRs (explode T kvs[j].2) ws[j].2
  | .gone, _ => True
theorem obR.mono {ρ ρ' : Rho} {H H' : List Ob} (e : Ev ρ H ρ' H') {x : Ob} {y : Option Abs.Ob} (h : obR ρ H x y) : obR ρ' H' x y := by
  cases x with
  | box cs => obtain ⟨vs, h1, h2⟩ := h; exact ⟨vs, h1, h2.mono e⟩
  | row T n xs => exact h
  | map T kvs => exact h
  | gone => trivial
/-- A heap, object by object. -/
theorem HpR.mk' {ρ : Rho} {H : List Ob} {h : Heap} (len : ρ.length = H.length) (ob : ∀ (id : Nat) (x : Ob), H[id]? = some x → (∃ a y, ρ[id]? = some (some a) ∧ h[a]? = some y ∧ obR ρ H x y) ∨ (ρ[id]? = some none ∧ ∃ T n, x = .row T n [] ∧ 0 < szT T) ∨ x = .gone)
    (inj : ∀ (i j a : Nat), ρ[i]? = some (some a) → ρ[j]? = some (some a) → i = j) (lt : ∀ (i a : Nat), ρ[i]? = some (some a) → a < h.length) : HpR ρ H h := by
  refine ⟨len, fun id n T xs hx => ?_, fun id cs hx => ?_, fun id T kvs hx => ?_, inj, lt⟩
  · rcases ob id _ hx with ⟨a, y, h1, h2, es, rfl, h4⟩ | ⟨h1, T', n', h2, h3⟩ | h1
    · exact .inl ⟨a, es, h1, h2, h4⟩
    · cases h2; exact .inr ⟨h1, rfl, h3⟩
    · cases h1
  · rcases ob id _ hx with ⟨a, y, h1, h2, vs, rfl, h4⟩ | ⟨h1, T', n', h2, h3⟩ | h1
    · exact ⟨a, vs, h1, h2, h4⟩
    · cases h2
    · cases h1
  · rcases ob id _ hx with ⟨a, y, h1, h2, ws, rfl, h4⟩ | ⟨h1, T', n', h2, h3⟩ | h1
    · exact ⟨a, ws, h1, h2, h4⟩
    · cases h2
    · cases h1
theorem HpR.ob {ρ : Rho} {H : List Ob} {h : Heap} (hp : HpR ρ H h) {id : Nat} {x : Ob} (hx : H[id]? = some x) : (∃ a y, ρ[id]? = some (some a) ∧ h[a]? = some y ∧ obR ρ H x y) ∨ (ρ[id]? = some none ∧ ∃ T n, x = .row T n [] ∧ 0 < szT T) ∨ x = .gone := by
  cases x with
  | row T n xs =>
    rcases hp.row id n T xs hx with ⟨a, es, h1, h2, h3⟩ | ⟨h1, rfl, h3⟩
    · exact .inl ⟨a, _, h1, h2, es, rfl, h3⟩
    · exact .inr (.inl ⟨h1, T, n, rfl, h3⟩)
  | box cs => obtain ⟨a, vs, h1, h2, h3⟩ := hp.box id cs hx; exact .inl ⟨a, _, h1, h2, vs, rfl, h3⟩
  | map T kvs => obtain ⟨a, ws, h1, h2, h3⟩ := hp.map id T kvs hx; exact .inl ⟨a, _, h1, h2, ws, rfl, h3⟩
  | gone => exact .inr (.inr rfl)
theorem HpR.push (hp : HpR ρ H h) {x : Ob} {y : Option Abs.Ob} (hx : obR (ρ ++ [some h.length]) (H ++ [x]) x y) : HpR (ρ ++ [some h.length]) (H ++ [x]) (h ++ [y]) := by
  refine HpR.mk' (by simp [hp.len]) (fun id z hz => ?_) (fun i j a h1 h2 => ?_) (fun i a h1 => ?_)
  · rcases get_app2 hz with ⟨_, h1⟩ | ⟨rfl, rfl⟩
    · rcases hp.ob h1 with ⟨a, y', k1, k2, k3⟩ | ⟨k1, k2⟩ | k1
      · exact .inl ⟨a, y', app_get k1, app_get k2, k3.mono (Ev.push _ _)⟩
      · exact .inr (.inl ⟨app_get k1, k2⟩)
      · exact .inr (.inr k1)
    · refine .inl ⟨h.length, y, ?_, by simp, hx⟩
      rw [← hp.len]; simp
  · rcases get_app2 h1 with ⟨_, k1⟩ | ⟨e1, k1⟩ <;> rcases get_app2 h2 with ⟨_, k2⟩ | ⟨e2, k2⟩
    · exact hp.inj i j a k1 k2
    · cases k2; have := hp.lt _ _ k1; omega
    · cases k1; have := hp.lt _ _ k2; omega
    · omega
  · rcases get_app2 h1 with ⟨_, k1⟩ | ⟨e1, k1⟩
    · have := hp.lt _ _ k1; simp; omega
    · cases k1; simp
theorem HpR.nilRow (hp : HpR ρ H h) {T : Ty} (hT : 0 < szT T) : HpR (ρ ++ [none]) (H ++ [.row T 0 []]) h := by
  refine HpR.mk' (by simp [hp.len]) (fun id z hz => ?_) (fun i j a h1 h2 => ?_) (fun i a h1 => ?_)
  · rcases get_app2 hz with ⟨_, h1⟩ | ⟨rfl, rfl⟩
    · rcases hp.ob h1 with ⟨a, y', k1, k2, k3⟩ | ⟨k1, k2⟩ | k1
      · exact .inl ⟨a, y', app_get k1, k2, k3.mono (Ev.push _ _)⟩
      · exact .inr (.inl ⟨app_get k1, k2⟩)
      · exact .inr (.inr k1)
    · refine .inr (.inl ⟨?_, T, 0, rfl, hT⟩)
      rw [← hp.len]; simp
  · rcases get_app2 h1 with ⟨_, k1⟩ | ⟨e1, k1⟩ <;> rcases get_app2 h2 with ⟨_, k2⟩ | ⟨e2, k2⟩ <;> first | exact hp.inj i j a k1 k2 | (cases k2; done) | (cases k1; done)
  · rcases get_app2 h1 with ⟨_, k1⟩ | ⟨e1, k1⟩
    · exact hp.lt _ _ k1
    · cases k1
theorem set_get {α : Type} {l : List α} {i j : Nat} {x y : α} (h : (l.set i x)[j]? = some y) : (j = i ∧ x = y ∧ i < l.length) ∨ (j ≠ i ∧ l[j]? = some y) := by
  by_cases e : j = i
  · subst e
    have hl := (List.getElem?_eq_some_iff.1 h).1
    simp at hl
    rw [List.getElem?_set_self hl] at h
    cases h
    exact .inl ⟨rfl, rfl, hl⟩
  · rw [List.getElem?_set_ne (fun x => e x.symm)] at h
    exact .inr ⟨e, h⟩
theorem Ev.set {id : Nat} {x0 x : Ob} (h0 : H[id]? = some x0) (he : evo x0 x) : Ev ρ H ρ (H.set id x) := ⟨fun _ _ h => h, fun j z hz => by
  by_cases e : j = id
  · subst e
    rw [h0] at hz; cases hz
    exact ⟨x, List.getElem?_set_self (List.getElem?_eq_some_iff.1 h0).1, he⟩
  · exact ⟨z, by rw [List.getElem?_set_ne (fun x => e x.symm)]; exact hz, evo.refl z⟩⟩
theorem HpR.set (hp : HpR ρ H h) {id a : Nat} {x0 x : Ob} {y : Option Abs.Ob} (hρ : ρ[id]? = some (some a)) (h0 : H[id]? = some x0) (he : evo x0 x) (hx : obR ρ (H.set id x) x y) : HpR ρ (H.set id x) (h.set a y) := by
  have hev : Ev ρ H ρ (H.set id x) := Ev.set h0 he
  refine HpR.mk' (by simp [hp.len]) (fun j z hz => ?_) hp.inj (fun i b h1 => by rw [List.length_set]; exact hp.lt _ _ h1)
  rcases set_get hz with ⟨rfl, rfl, _⟩ | ⟨hne, h1⟩
  · exact .inl ⟨a, y, hρ, List.getElem?_set_self (hp.lt _ _ hρ), hx⟩
  · rcases hp.ob h1 with ⟨b, y', k1, k2, k3⟩ | ⟨k1, k2⟩ | k1
    · refine .inl ⟨b, y', k1, ?_, k3.mono hev⟩
      rw [List.getElem?_set_ne (fun e => hne (hp.inj _ _ b k1 (by rw [← e]; exact hρ)))]
      exact k2
    · exact .inr (.inl ⟨k1, k2⟩)
    · exact .inr (.inr k1)
theorem Fr.step {H' : List Ob} {ρ' : Rho} {h' : Heap} (hf : Fr F ρ H h) (he : Ev ρ H ρ' H') (hl : h.length ≤ h'.length) (hn : ∀ (id a : Nat), ρ'[id]? = some (some a) → ρ[id]? = some (some a) ∨ h.length ≤ a)
    (hs : ∀ (a : Nat), a < h.length → (∀ (id : Nat), ρ[id]? ≠ some (some a)) → h'[a]? = h[a]?) : Fr F ρ' H' h' where
  len := Nat.le_trans hf.len hl
  old := fun id a h1 h2 => by
    rcases hn id a h1 with k | k
    · exact hf.old id a k h2
    · have := hf.len; omega
  same := fun a h1 h2 => by
    rw [hs a (by have := hf.len; omega) (fun id hid => h2 id (hf.old id a hid h1))]
    exact hf.same a h1 h2
  rho := fun id x h1 => he.rho _ _ (hf.rho id x h1)
  ob := fun id x h1 => by
    obtain ⟨y, k1, k2⟩ := hf.ob id x h1
    obtain ⟨z, k3, k4⟩ := he.ob id y k1
    exact ⟨z, k3, k4.old k2⟩
theorem Fr.push (hf : Fr F ρ H h) (x : Ob) (y : Option Abs.Ob) : Fr F (ρ ++ [some h.length]) (H ++ [x]) (h ++ [y]) :=
  hf.step (Ev.push _ _) (by simp) (fun id a h1 => by rcases get_app2 h1 with ⟨_, k⟩ | ⟨_, k⟩; exact .inl k; cases k; exact .inr (Nat.le_refl _)) (fun a h1 _ => List.getElem?_append_left h1)
theorem Fr.nilRow (hf : Fr F ρ H h) (x : Ob) : Fr F (ρ ++ [none]) (H ++ [x]) h :=
  hf.step (Ev.push _ _) (Nat.le_refl _) (fun id a h1 => by rcases get_app2 h1 with ⟨_, k⟩ | ⟨_, k⟩; exact .inl k; cases k) (fun a h1 _ => rfl)
theorem Fr.set (hf : Fr F ρ H h) {id a : Nat} {x0 x : Ob} {y : Option Abs.Ob} (hρ : ρ[id]? = some (some a)) (h0 : H[id]? = some x0) (he : evo x0 x) : Fr F ρ (H.set id x) (h.set a y) :=
  hf.step (Ev.set h0 he) (by simp) (fun id a h1 => .inl h1) (fun b h1 h2 => List.getElem?_set_ne (fun e => h2 id (by rw [← e]; exact hρ)))
theorem Ev.trans {ρ1 ρ2 : Rho} {H1 H2 : List Ob} (a : Ev ρ H ρ1 H1) (b : Ev ρ1 H1 ρ2 H2) : Ev ρ H ρ2 H2 := ⟨fun _ _ h => b.rho _ _ (a.rho _ _ h), fun id x h => by
  obtain ⟨y, k1, k2⟩ := a.ob id x h
  obtain ⟨z, k3, k4⟩ := b.ob id y k1
  refine ⟨z, k3, ?_⟩
  rcases k4 with k4 | ⟨T, n, xs, n', xs', rfl, rfl, m1, m2, m3⟩ | ⟨cs, ds, rfl, rfl⟩ | ⟨T, p, q, rfl, rfl⟩
  · exact .inl k4
  · rcases k2 with k2 | ⟨T2, m, ys, m', ys', rfl, e2, l1, l2, l3⟩ | ⟨_, _, _, k2⟩ | ⟨_, _, _, _, k2⟩
    · cases k2
    · cases e2
      exact .inr (.inl ⟨T, m, ys, n', xs', rfl, rfl, by omega, by omega, fun e => by rw [l3 (by omega), m3 (by omega)]⟩)
    · cases k2
    · cases k2
  · rcases k2 with k2 | ⟨_, _, _, _, _, _, e2, _⟩ | ⟨p, _, rfl, k2⟩ | ⟨_, _, _, _, k2⟩
    · cases k2
    · cases e2
    · exact .inr (.inr (.inl ⟨p, ds, rfl, rfl⟩))
    · cases k2
  · rcases k2 with k2 | ⟨_, _, _, _, _, _, e2, _⟩ | ⟨_, _, _, k2⟩ | ⟨_, u, _, rfl, k2⟩
    · cases k2
    · cases e2
    · cases k2
    · cases k2; exact .inr (.inr (.inr ⟨T, u, q, rfl, rfl⟩))⟩
end
end Go.Proofs.Ytagnfckihdlhpaa.Den

/-
  den's operations that make own objects or change them are right: each operation.
-/
namespace Go.Proofs.Ytagnfckihdlhpaa.Abs
open Go.RowKit
/-- Nothing is appended to a slice that is nil. -/
theorem ar_appendNil0 {P : Program} {E : Cx} {K : Env → Heap → Prop} {L : Env} {h : Heap} {d : Nat} {ty : TypeId} {pos : String} {af : Array Edge} {gd : Option (Nat × Bool)} {tb : Tbl} (htb : TbOK P tb) {t tx : TypeId} {x y : Operand} {s : Nat} {v : V} {el el' : ElI} (hx : ev L x = some (.one (.lit (.slice none 0 0)))) (he : elOf tb t = some el) (hex : elOf tb tx = some el') (hne : el.zero ≠ []) (hz : el.zero.length = el.size) (hs : el.size = s)
    (hy : ev L y = some (.one v)) (hv : elems h s v = some []) (hn : d < E.n) (hk : K ((d, .one (.lit (.slice none 0 0))) :: L) h) : ar P ⟨some d, .call ⟨.builtin .append, #[x, y], #[t, tx]⟩, ty, pos, af, gd⟩ E K L h := by
  refine ar_val rfl hn (fun ι I a w r => ?_) hk
  obtain ⟨inf0, z, g1, g2, g3, g4, g5⟩ := elZero htb he hne hz
  obtain ⟨u1, u2, _⟩ := elOf_some htb he
  obtain ⟨u1', _⟩ := elOf_some htb hex
  obtain ⟨news, hsrc, hnv, hns⟩ := elems_src (P := P) r u1' (r.ev hy).one' hv
  have hnl : news = [] := by have := hnv.1; simpa using this
  subst hnl
  have hsrc' : Src P inf0.size tx (a.eval y) 0 [] w := by rw [g4, hs]; exact hsrc
  have hc := (r.ev hx).lit.1
  refine ⟨.slice none 0 0, ?_, .one (.lit trivial)⟩
  rw [append_exec, hc, run_append_nothing w t tx ty el.t inf0 u1 g1 none 0 0 (Nat.le_refl _) (a.eval y) hsrc']; rfl
/-- What is known of the cells of an own row, told otherwise. -/
theorem Rel.imp {E : Cx} {L : Env} {h : Heap} {ι : List Inf} {I : Nat → Prop} {a : Act} {w : World} (r : Rel E L h ι I a w) {id s : Nat} {es es' : List (List V)} (ho : h[id]? = some (some (.row s es))) (hl : es.length = es'.length) (hs : ∀ e ∈ es', e.length = s)
    (hi : ∀ (k : Nat) (h1 : k < es.length) (h2 : k < es'.length) (j : Nat) (g1 : j < es[k].length) (g2 : j < es'[k].length) (I : Nat → Prop) (w : World) (ι : List Inf) (u : Value), VR I w ι es[k][j] u → VR I w ι es'[k][j] u) : Rel E L (h.set id (some (.row s es'))) ι I a w :=
  { r with
    heap := by
      refine ⟨by simp [r.heap.len], fun i o f x y => ?_, fun i o f x y => ?_, fun i i' o o' f f' x x' y y' e => ?_⟩
      · rcases get_set x with ⟨rfl, x, _⟩ | ⟨_, x⟩
        · cases x
          obtain ⟨cur, t, h1, h2, h3, h4, h5, h6, h7⟩ := r.heap.obj i _ f ho y
          refine ⟨cur, t, h1, h2, h3, h4, by omega, hs, fun k hk j hj => ?_⟩
          have hk' : k < es.length := by omega
          have hj' : j < es[k].length := by rw [h6 _ (List.getElem_mem hk')]; rw [hs _ (List.getElem_mem hk)] at hj; exact hj
          obtain ⟨u, k1, k2⟩ := h7 k hk' j hj'
          exact ⟨u, k1, hi k hk' hk j hj' hj I w ι u k2⟩
        · exact r.heap.obj i o f x y
      · rcases get_set x with ⟨rfl, x, _⟩ | ⟨_, x⟩
        · exact r.heap.off i _ f ho y
        · exact r.heap.off i o f x y
      · rcases get_set x with ⟨e1, x1, _⟩ | ⟨_, x1⟩
        · rcases get_set x' with ⟨e2, x2, _⟩ | ⟨_, x2⟩
          · rw [e1, e2]
          · subst e1; exact r.heap.inj _ _ _ _ f f' ho x2 y y' e
        · rcases get_set x' with ⟨e2, x2, _⟩ | ⟨_, x2⟩
          · subst e2; exact r.heap.inj _ _ _ _ f f' x1 ho y y' e
          · exact r.heap.inj _ _ _ _ f f' x1 x2 y y' e
    mine := fun i o f x y => by
      rcases get_set x with ⟨rfl, x, _⟩ | ⟨_, x⟩
      · exact r.mine i _ f ho y
      · exact r.mine i o f x y }
end Go.Proofs.Ytagnfckihdlhpaa.Abs
namespace Go.Proofs.Ytagnfckihdlhpaa.Den
open Go.RowKit
open Abs (V AV Env Heap ar)

def Imp (v v' : V) : Prop := ∀ (I : Nat → Prop) (w : World) (ι : List Abs.Inf) (u : Value), Abs.VR I w ι v u → Abs.VR I w ι v' u
theorem Imp.refl (v : V) : Imp v v := fun _ _ _ _ h => h
def Imp1 (a b : List V) : Prop := a.length = b.length ∧ ∀ (j : Nat) (h1 : j < a.length) (h2 : j < b.length), Imp a[j] b[j]
theorem Imp1.refl (a : List V) : Imp1 a a := ⟨rfl, fun _ _ _ => Imp.refl _⟩
inductive Imps : List (List V) → List (List V) → Prop
  | nil : Imps [] []
  | cons {a b : List V} {aa bs : List (List V)} (h : Imp1 a b) (k : Imps aa bs) : Imps (a :: aa) (b :: bs)
theorem Imps.len {a b : List (List V)} (h : Imps a b) : a.length = b.length := by induction h with | nil => rfl | cons _ _ ih => simp [ih]
theorem Imps.at_ {a b : List (List V)} (h : Imps a b) : ∀ (k : Nat) (h1 : k < a.length) (h2 : k < b.length), Imp1 a[k] b[k] := by
  induction h with
  | nil => intro k h1; simp at h1
  | cons h k ih =>
    intro m h1 h2
    cases m with
    | zero => exact h
    | succ m => exact ih m (by simpa using h1) (by simpa using h2)
theorem Imps.refl : ∀ (a : List (List V)), Imps a a
  | [] => .nil
  | x :: a => .cons (Imp1.refl x) (Imps.refl a)

section
variable {P : Program} {E : Abs.Cx} {F : In} {ρ : Rho} {H : List Ob} {D : List (Nat × AT)} {L : Env} {h : Heap} {d : Nat} {ty : TypeId} {pos : String} {af : Array Edge} {gd : Option (Nat × Bool)} {tb : Nat → Option TI}

theorem Shift.imp {id s : Nat} {es es' : List (List V)} (ho : h[id]? = some (some (.row s es))) (hi : Imps es es') (hs : ∀ e ∈ es', e.length = s) : Abs.Shift L h L (h.set id (some (.row s es'))) :=
  ⟨fun _ _ I _ _ r => ⟨I, r.imp ho hi.len hs (fun k h1 h2 j g1 g2 => (hi.at_ k h1 h2).2 j g1 g2)⟩⟩

/-- Rows, element by element. -/
inductive FRl (T : Ty) : List (I T) → List (List V) → Prop
  | nil : FRl T [] []
  | cons {x : I T} {e : List V} {xs : List (I T)} {es : List (List V)} (h : FRs (explode T x) e) (k : FRl T xs es) : FRl T (x :: xs) (e :: es)
theorem FRl.fr {T : Ty} (hT : 0 < szT T) {xs : List (I T)} {es : List (List V)} (h : FRl T xs es) : FR (.l T xs) (.imm (szT T) es) := by
  have key : es.length = xs.length ∧ (∀ e ∈ es, e.length = szT T) ∧ ∀ (m : Nat) (h1 : m < xs.length) (h2 : m < es.length), FRs (explode T xs[m]) es[m] := by
    induction h with
    | nil => exact ⟨rfl, fun e he => by simp at he, fun m h1 => by simp at h1⟩
    | cons h k ih =>
      obtain ⟨i1, i2, i3⟩ := ih
      refine ⟨by simp [i1], fun e he => ?_, fun m h1 h2 => ?_⟩
      · rcases List.mem_cons.1 he with rfl | he
        · rw [← h.1, explode_len T hT]
        · exact i2 e he
      · cases m with
        | zero => exact h
        | succ m => exact i3 m (by simpa using h1) (by simpa using h2)
  exact .l hT key.1 key.2.1 (fun m h1 h2 j h3 h4 => (key.2.2 m h1 h2).2 j h3 h4)
theorem FR.frl {T : Ty} {xs : List (I T)} {es : List (List V)} (h : FR (.l T xs) (.imm (szT T) es)) : FRl T xs es := by
  cases h with
  | l hp hl hs hr =>
    have : ∀ (xs : List (I T)) (es : List (List V)), es.length = xs.length → (∀ (m : Nat) (h1 : m < xs.length) (h2 : m < es.length), FRs (explode T xs[m]) es[m]) → FRl T xs es := by
      intro xs
      induction xs with
      | nil => intro es hl _; cases es with | nil => exact .nil | cons => simp at hl
      | cons x xs ih =>
        intro es hl h
        cases es with
        | nil => simp at hl
        | cons e es => exact .cons (h 0 (by simp) (by simp)) (ih es (by simpa using hl) (fun m h1 h2 => h (m + 1) (by simpa using h1) (by simpa using h2)))
    refine this xs es hl (fun m h1 h2 => ⟨?_, fun j h3 h4 => hr m h1 h2 j h3 h4⟩)
    rw [explode_len T hp, hs _ (List.getElem_mem h2)]
theorem FRl.app {T : Ty} {xs ys : List (I T)} {es ns : List (List V)} (h : FRl T xs es) (k : FRl T ys ns) : FRl T (xs ++ ys) (es ++ ns) := by
  induction h with
  | nil => exact k
  | cons h _ ih => exact .cons h ih
theorem FRl.len {T : Ty} {xs : List (I T)} {es : List (List V)} (h : FRl T xs es) : es.length = xs.length := by induction h with | nil => rfl | cons _ _ ih => simp [ih]
theorem FRl.rep {T : Ty} {x : I T} {e : List V} (h : FRs (explode T x) e) : ∀ n, FRl T (List.replicate n x) (List.replicate n e)
  | 0 => .nil
  | n + 1 => .cons h (FRl.rep h n)
theorem FRl.set {T : Ty} {x : I T} {e : List V} (hx : FRs (explode T x) e) {xs : List (I T)} {es : List (List V)} (h : FRl T xs es) : ∀ k, FRl T (xs.set k x) (es.set k e) := by
  induction h with
  | nil => intro k; exact .nil
  | cons h k ih =>
    intro m
    cases m with
    | zero => exact .cons hx k
    | succ m => exact .cons h (ih m)

theorem flat_fr {c : C} {v : V} (hf : flatC c = true) (h : CR [] [] c v) : FR c v := by
  cases c <;> simp only [flatC, reduceCtorEq] at hf <;> (cases h with | fl h => exact h)
theorem explode_flat {T : Ty} (hT : 0 < szT T) (x : I T) : (explode T x).all flatC = true := by
  unfold explode
  split <;> rfl
theorem part_ok {cs ds : List C} {vs : List V} {T : Ty} (hT : 0 < szT T) {x : I T} (hp : peeks [] cs = some ds) (hi : implode T ds = some x) (hc : CRs ρ H cs vs) : ∃ us, FRs (explode T x) us ∧ Imp1 vs us := by
  obtain ⟨us, h1, _, h3, h4⟩ := peeks0_ok hp hc
  have e := implode_explode hi
  have hf := explode_flat hT x
  rw [e] at hf ⊢
  exact ⟨us, ⟨h1.1, fun j k1 k2 => flat_fr (List.all_eq_true.1 hf _ (List.getElem_mem k1)) (h1.2 j k1 k2)⟩, h3, h4⟩

theorem zero_flat {v : Value} {c : C} (h : zeroFlat v c = true) : Abs.okLitB v = true ∧ ∃ u, FR c u ∧ Imp (.lit v) u := by
  unfold zeroFlat at h
  split at h
  · exact ⟨by decide, _, .i, Imp.refl _⟩
  · exact ⟨by decide, _, .k, Imp.refl _⟩
  · exact ⟨rfl, _, .b, Imp.refl _⟩
  · rename_i x y
    simp only [Bool.and_eq_true, beq_iff_eq] at h
    have e : x = y := by
      have e1 : x.data = #[] := Array.eq_empty_of_size_eq_zero h.1
      have e2 : y.data = #[] := Array.eq_empty_of_size_eq_zero h.2
      cases x
      cases y
      simp only at e1 e2
      rw [e1, e2]
    subst e
    exact ⟨by simp [Abs.okLitB, h.1], _, .s, Imp.refl _⟩
  · exact ⟨rfl, _, FR.nil_ (by simpa [Nat.blt_eq] using h), fun I w ι u hu => by cases hu; exact .imm0 (Nat.zero_le _)⟩
  · cases h
theorem zeros_flat : ∀ {vs : List Value} {cs : List C}, zerosFlat vs cs = true → vs.all Abs.okLitB = true ∧ ∃ us, FRs cs us ∧ Imp1 (vs.map V.lit) us
  | [], [], _ => ⟨rfl, [], ⟨rfl, fun j h => by simp at h⟩, rfl, fun j h => by simp at h⟩
  | [], _ :: _, h => by cases h
  | _ :: _, [], h => by cases h
  | v :: vs, c :: cs, h => by
    simp only [zerosFlat, Bool.and_eq_true] at h
    obtain ⟨h1, u, h3, h4⟩ := zero_flat h.1
    obtain ⟨k1, us, k2, k3⟩ := zeros_flat h.2
    refine ⟨by simp [h1, k1], u :: us, ⟨by simp [k2.1], fun j g1 g2 => ?_⟩, by simpa using k3.1, fun j g1 g2 => ?_⟩
    · cases j with
      | zero => exact h3
      | succ j => exact k2.2 j (by simpa using g1) (by simpa using g2)
    · cases j with
      | zero => exact h4
      | succ j => exact k3.2 j (by simpa using g1) (by simpa using g2)
/-- The elements of a row that is written out. -/
theorem elemsD_ok {T : Ty} (hT : 0 < szT T) {z : I T} {zs zs' : List V} (hz : FRs (explode T z) zs') (hzi : Imp1 zs zs') : ∀ {n k : Nat} {ps : List (Nat × List C)} {qs : List (Nat × List V)} {xs : List (I T)}, elemsD T z n k ps = some xs → PartsR ρ H ps qs → ∀ pre : List (List V), pre.length = k →
    ∃ es es', Abs.fillE (szT T) (pre ++ List.replicate n zs) qs = some (pre ++ es) ∧ Imps es es' ∧ FRl T xs es'
  | 0, k, ps, qs, xs, h, hp, pre, _ => by
    cases hp with
    | nil => simp only [elemsD, Option.some.injEq] at h; subst h; exact ⟨[], [], by simp [Abs.fillE], .nil, .nil⟩
    | cons _ _ => simp only [elemsD] at h; cases h
  | n + 1, k, ps, qs, xs, h, hp, pre, hk => by
    have zl : zs.length = szT T := by rw [hzi.1, ← hz.1, explode_len T hT]
    cases hp with
    | nil =>
      simp only [elemsD] at h
      split at h
      · rename_i ys hy
        cases h
        obtain ⟨es, es', h1, h2, h3⟩ := elemsD_ok hT hz hzi hy .nil (pre ++ [zs]) (by simp [hk])
        exact ⟨zs :: es, zs' :: es', by simpa [List.replicate_succ] using h1, .cons hzi h2, .cons hz h3⟩
      · cases h
    | @cons i cs vs ps qs hc hr =>
      simp only [elemsD] at h
      split at h
      · rename_i hik
        have hik : i = k := Nat.eq_of_beq_eq_true hik
        subst hik
        split at h
        · rename_i ds hd
          split at h
          · rename_i x ys hx hy
            cases h
            obtain ⟨us, u1, u2⟩ := part_ok hT hd hx hc
            have vl : vs.length = szT T := by rw [u2.1, ← u1.1, explode_len T hT]
            obtain ⟨es, es', h1, h2, h3⟩ := elemsD_ok hT hz hzi hy hr (pre ++ [vs]) (by simp [hk])
            refine ⟨vs :: es, us :: es', ?_, .cons u2 h2, .cons u1 h3⟩
            simp only [Abs.fillE]
            rw [if_pos (by simp [vl, hk])]
            have : (pre ++ List.replicate (n + 1) zs).set i vs = pre ++ [vs] ++ List.replicate n zs := by
              rw [← hk, List.replicate_succ, List.set_append_right _ _ (Nat.le_refl _), Nat.sub_self]; simp
            rw [this, h1]; simp
          · cases h
        · cases h
      · split at h
        · rename_i ys hy
          cases h
          obtain ⟨es, es', h1, h2, h3⟩ := elemsD_ok hT hz hzi hy (.cons hc hr) (pre ++ [zs]) (by simp [hk])
          exact ⟨zs :: es, zs' :: es', by simpa [List.replicate_succ] using h1, .cons hzi h2, .cons hz h3⟩
        · cases h

theorem op_alloc (htb : TBOK P tb) (hn : d < E.n) {t : Nat} {ti : TI} (ht : tb t = some ti) : OpOK P ⟨some d, .alloc t, ty, pos, af, gd⟩ E F D H (.one (.p H.length 0)) (H ++ [.box ti.zero]) := fun ρ L h hs hp hf => by
  obtain ⟨i, G⟩ := htb.get ht
  obtain ⟨z1, z2⟩ := zeros_ok (ρ := ρ ++ [some h.length]) (H := H ++ [.box ti.zero]) G.zero
  refine Abs.ar_alloc G.tb G.look z1 G.zne hn ⟨ρ ++ [some h.length], _, rfl, .one (.p ?_), hp.push ⟨_, ?_, z2⟩, Ev.push _ _, hf.push _ _⟩
  · rw [← hp.len]; simp
  · simp
theorem op_box (hn : d < E.n) {t : TypeId} {x : Operand} {v : AT} {cs : List C} (hx : ev D x = some v) (hc : cells v = some cs) : OpOK P ⟨some d, .box t x, ty, pos, af, gd⟩ E F D H (.one (.p H.length 0)) (H ++ [.box cs]) := fun ρ L h hs hp hf => by
  obtain ⟨av, h1, h2⟩ := ev_ok hs hx
  obtain ⟨vs, h3, h4⟩ := cells_ok hc h2
  refine Abs.ar_box h1 h3 hn ⟨ρ ++ [some h.length], _, rfl, .one (.p ?_), hp.push ⟨vs, rfl, h4.mono (Ev.push _ _)⟩, Ev.push _ _, hf.push _ _⟩
  rw [← hp.len]; simp
theorem FRl.lens {T : Ty} (hT : 0 < szT T) {xs : List (I T)} {es : List (List V)} (h : FRl T xs es) : ∀ e ∈ es, e.length = szT T := by
  cases h.fr hT with | l _ _ hs _ => exact hs
theorem raw_buildSlice (htb : TBOK P tb) (hn : d < E.n) {t len : Nat} {ti : TI} {T : Ty} {z : I T} {parts : List (Nat × Operand)} {ps : List (Nat × List C)} {xs : List (I T)} (ht : tb t = some ti) (he : ti.elem = some T) (hz : zeroT T = some z) (hp : evParts D parts = some ps) (hx : elemsD T z len 0 ps = some xs) (hb : Nat.ble (len * szT T) 16777216 = true)
    (hs : EncL ρ H D L) (h : Heap) : 0 < szT T ∧ ∃ es es', ar P ⟨some d, .buildSlice t len parts.toArray, ty, pos, af, gd⟩ E (fun L2 h2 => L2 = (d, .one (.own h.length 0 len)) :: L ∧ h2 = h ++ [some (.row (szT T) es)]) L h ∧ Imps es es' ∧ FRl T xs es' ∧ es'.length = len := by
  obtain ⟨i, G⟩ := htb.get ht
  obtain ⟨el, z', g0, g1, g2, g3, g4, g5, g6, g7, g8⟩ := G.elem T he
  rw [hz] at g2
  cases g2
  obtain ⟨z1, us, z2, z3⟩ := zeros_flat g6
  obtain ⟨qs, q1, q2⟩ := evParts_ok hs hp
  obtain ⟨es, es', e1, e2, e3⟩ := elemsD_ok g4 z2 z3 hx q2 [] rfl
  simp only [List.nil_append] at e1
  have hr := Abs.ar_buildSlice (P := P) (E := E) (L := L) (d := d) (ty := ty) (pos := pos) (af := af) (gd := gd) (h0 := h) (l := []) (n := h.length) (K := fun L2 h2 => L2 = (d, .one (.own h.length 0 len)) :: L ∧ h2 = h ++ [some (.row (szT T) es)]) G.tb rfl g1 (by intro e; rw [e] at g5; simp at g5; omega) g5 z1 q1 (by rw [g3]; exact e1) (by rw [g3]; exact hb) hn ⟨rfl, by rw [g3]; rfl⟩
  rw [List.append_nil] at hr
  refine ⟨g4, es, es', hr, e2, e3, ?_⟩
  rw [← e2.len]
  obtain ⟨_, _, k⟩ := Abs.fillE_ok qs _ _ (by intro e he; rw [List.mem_replicate] at he; rw [he.2, List.length_map, g5, g3]) e1
  rw [k]; simp
theorem set_last {α : Type} (l : List α) (x y : α) : (l ++ [x]).set l.length y = l ++ [y] := by rw [List.set_append_right _ _ (Nat.le_refl _), Nat.sub_self]; rfl
theorem op_buildSlice (htb : TBOK P tb) (hn : d < E.n) {t len : Nat} {ti : TI} {T : Ty} {z : I T} {parts : List (Nat × Operand)} {ps : List (Nat × List C)} {xs : List (I T)} (ht : tb t = some ti) (he : ti.elem = some T) (hz : zeroT T = some z) (hp : evParts D parts = some ps) (hx : elemsD T z len 0 ps = some xs) (hb : Nat.ble (len * szT T) 16777216 = true) :
    OpOK P ⟨some d, .buildSlice t len parts.toArray, ty, pos, af, gd⟩ E F D H (.one (.o H.length)) (H ++ [.row T 0 xs]) := fun ρ L h hs hh hf => by
  obtain ⟨g4, es, es', hr, e2, e3, hlen⟩ := raw_buildSlice (P := P) (E := E) (d := d) (ty := ty) (pos := pos) (af := af) (gd := gd) htb hn ht he hz hp hx hb hs h
  refine ar_post hr fun L2 h2 ⟨k1, k2⟩ => ?_
  subst k1 k2
  refine ⟨_, _, ⟨ρ ++ [some h.length], .one (.own h.length 0 len), rfl, .one ?_, hh.push (y := some (.row (szT T) es')) ⟨es', rfl, e3.fr g4⟩, Ev.push _ _, hf.push _ _⟩, fun Lf => ?_⟩
  · have := CR.o (ρ := ρ ++ [some h.length]) (H := H ++ [.row T 0 xs]) (id := H.length) (a := h.length) (n := 0) (T := T) (xs := xs) (by rw [← hh.len]; simp) (by simp)
    rw [← e3.len, hlen] at this
    exact this
  · have := Shift.imp (L := (d, .one (.own h.length 0 len)) :: L ++ Lf) (h := h ++ [some (.row (szT T) es)]) (id := h.length) (s := szT T) (es := es) (es' := es') (by simp) e2 (e3.lens g4)
    rw [set_last] at this
    exact this
theorem HpR.junk (hp : HpR ρ H h) (y : Option Abs.Ob) : HpR ρ H (h ++ [y]) :=
  HpR.mk' hp.len (fun id x hx => by
    rcases hp.ob hx with ⟨a, z, k1, k2, k3⟩ | k1 | k1
    · exact .inl ⟨a, z, k1, app_get k2, k3⟩
    · exact .inr (.inl k1)
    · exact .inr (.inr k1)) hp.inj (fun i a h1 => by have := hp.lt i a h1; simp; omega)
theorem Fr.junk (hf : Fr F ρ H h) (y : Option Abs.Ob) : Fr F ρ H (h ++ [y]) :=
  hf.step (Ev.refl _ _) (by simp) (fun _ _ h1 => .inl h1) (fun a h1 _ => List.getElem?_append_left h1)
/-- The slot of an own row, which becomes immutable. -/
theorem freezeTop {d a n : Nat} {s : Nat} {es : List (List V)} {L Lf : Env} {h : Heap} (ho : h[a]? = some (some (.row s es))) (hfl : es.all (·.all Abs.V.flat) = true) (hn : es.length = n) : Abs.Shift ((d, .one (.own a 0 n)) :: L ++ Lf) h ((d, .one (.imm s es)) :: L ++ Lf) (h.set a none) := by
  have := Abs.Shift.freeze (L := (d, .one (.own a 0 n)) :: L ++ Lf) (h := h) d a (s := s) (es := es) (v := .one (.own a 0 n)) ho hfl (by simp) (by simp [Abs.AV.fits, Abs.V.fits, hn])
  have e : (AV.one (V.own a 0 n)).fz a s es = .one (.imm s es) := by simp [Abs.AV.fz, Abs.V.fz, ← hn]
  rw [e] at this
  refine this.trans ⟨fun _ _ I _ _ r => ⟨I, r.weaken fun t x hx => ?_⟩⟩
  simp only [List.cons_append, List.lookup_cons] at hx ⊢
  cases ht : t == d with
  | true => rw [ht] at hx; exact hx
  | false => rw [ht] at hx; exact hx
/-- A slice that is written out, immutable from the start. -/
theorem op_buildImm (htb : TBOK P tb) (hn : d < E.n) {t len : Nat} {ti : TI} {T : Ty} {z : I T} {parts : List (Nat × Operand)} {ps : List (Nat × List C)} {xs : List (I T)} (ht : tb t = some ti) (he : ti.elem = some T) (hz : zeroT T = some z) (hp : evParts D parts = some ps) (hx : elemsD T z len 0 ps = some xs) (hb : Nat.ble (len * szT T) 16777216 = true) :
    OpOK P ⟨some d, .buildSlice t len parts.toArray, ty, pos, af, gd⟩ E F D H (.one (.l T xs)) H := fun ρ L h hs hh hf => by
  obtain ⟨g4, es, es', hr, e2, e3, hlen⟩ := raw_buildSlice (P := P) (E := E) (d := d) (ty := ty) (pos := pos) (af := af) (gd := gd) htb hn ht he hz hp hx hb hs h
  refine ar_post hr fun L2 h2 ⟨k1, k2⟩ => ?_
  subst k1 k2
  refine ⟨_, _, ⟨ρ, .one (.imm (szT T) es'), rfl, .one (.fl (e3.fr g4)), hh.junk none, Ev.refl _ _, hf.junk none⟩, fun Lf => ?_⟩
  have s1 := Shift.imp (L := (d, .one (.own h.length 0 len)) :: L ++ Lf) (h := h ++ [some (.row (szT T) es)]) (id := h.length) (s := szT T) (es := es) (es' := es') (by simp) e2 (e3.lens g4)
  rw [set_last] at s1
  have s2 := freezeTop (d := d) (L := L) (Lf := Lf) (h := h ++ [some (.row (szT T) es')]) (a := h.length) (s := szT T) (es := es') (by simp) (e3.fr g4).flats hlen
  rw [set_last] at s2
  exact s1.trans s2

theorem sameOp_ok {x y : Operand} {n : Int} (h : sameOp x y = true) (hx : ev D x = some (.one (.i n))) : ev D y = some (.one (.i n)) := by
  unfold sameOp at h
  split at h
  · rw [← Nat.eq_of_beq_eq_true h]; exact hx
  · simp only [decide_eq_true_eq] at h; rw [← h]; exact hx
  · cases h
theorem mk_some {α : Type} {x : α} {n : Int} {xs : List α} (h : mk x n = some xs) : 0 ≤ n ∧ n ≤ 4294967296 ∧ xs = List.replicate n.toNat x := by
  unfold mk at h
  by_cases h1 : 0 ≤ n
  · by_cases h2 : n ≤ 4294967296
    · simp [h1, h2] at h; exact ⟨h1, h2, h.symm⟩
    · simp [h1, h2] at h
  · simp [h1] at h
theorem op_make (htb : TBOK P tb) (hn : d < E.n) {t : Nat} {ti : TI} {T : Ty} {z : I T} {x y : Operand} {n : Int} {xs : List (I T)} (ht : tb t = some ti) (he : ti.elem = some T) (hz : zeroT T = some z) (hx : ev D x = some (.one (.i n))) (hy : sameOp x y = true) (hm : mk z n = some xs) :
    OpOK P ⟨some d, .makeSlice t x y, ty, pos, af, gd⟩ E F D H (.one (.o H.length)) (H ++ [.row T 0 xs]) := fun ρ L h hs hh hf => by
  obtain ⟨i, G⟩ := htb.get ht
  obtain ⟨el, z', g0, g1, g2, g3, g4, g5, g6, g7, g8⟩ := G.elem T he
  rw [hz] at g2
  cases g2
  obtain ⟨z1, us, z2, z3⟩ := zeros_flat g6
  obtain ⟨m1, m2, rfl⟩ := mk_some hm
  obtain ⟨m, rfl⟩ := Int.eq_ofNat_of_zero_le m1
  obtain ⟨av, a1, a2⟩ := ev_ok hs hx
  obtain ⟨u, rfl, a3⟩ := a2.one'
  cases a3.int
  obtain ⟨av, b1, b2⟩ := ev_ok hs (sameOp_ok hy hx)
  obtain ⟨u, rfl, b3⟩ := b2.one'
  cases b3.int
  have hm2 : m ≤ 4294967296 := by omega
  have g7 := Nat.le_of_ble_eq_true g7
  have hr := Abs.ar_make (P := P) (E := E) (L := L) (d := d) (ty := ty) (pos := pos) (af := af) (gd := gd) (h0 := h) (l := []) (n := h.length) (m := m) (K := fun L2 h2 => L2 = (d, .one (.own h.length 0 m)) :: L ∧ h2 = h ++ [some (.row (szT T) (List.replicate m (el.zero.map V.lit)))]) G.tb rfl g1 (by intro e; rw [e] at g5; simp at g5; omega) g5 z1 a1 b1 (Nat.le_trans (Nat.mul_le_mul g7 hm2) (by decide)) (by omega) hn ⟨rfl, by rw [g3]; rfl⟩
  rw [List.append_nil] at hr
  have e3 : FRl T (List.replicate m z) (List.replicate m us) := FRl.rep z2 m
  have e2 : ∀ m, Imps (List.replicate m (el.zero.map V.lit)) (List.replicate m us) := fun m => by
    induction m with
    | zero => exact .nil
    | succ m ih => exact .cons z3 ih
  refine ar_post hr fun L2 h2 ⟨k1, k2⟩ => ?_
  subst k1 k2
  refine ⟨_, _, ⟨ρ ++ [some h.length], .one (.own h.length 0 m), rfl, .one ?_, hh.push (y := some (.row (szT T) (List.replicate m us))) ⟨_, rfl, e3.fr g4⟩, Ev.push _ _, hf.push _ _⟩, fun Lf => ?_⟩
  · have := CR.o (ρ := ρ ++ [some h.length]) (H := H ++ [.row T 0 (List.replicate (m : Int).toNat z)]) (id := H.length) (a := h.length) (n := 0) (T := T) (xs := List.replicate (m : Int).toNat z) (by rw [← hh.len]; simp) (by simp)
    simpa using this
  · have := Shift.imp (L := (d, .one (.own h.length 0 m)) :: L ++ Lf) (h := h ++ [some (.row (szT T) (List.replicate m (el.zero.map V.lit)))]) (id := h.length) (s := szT T) (es := _) (es' := List.replicate m us) (by simp) (e2 m) (e3.lens g4)
    rw [set_last] at this
    exact this

theorem castL_some {T T' : Ty} {xs : List (I T')} {ys : List (I T)} (h : castL (T := T) xs = some ys) : ∃ e : T' = T, ys = e ▸ xs := by
  unfold castL at h
  split at h
  · rename_i e; cases h; exact ⟨e, rfl⟩
  · cases h
theorem lim_some {α : Type} {xs ys : List α} (h : lim xs = some ys) : ys = xs ∧ xs.length ≤ 4294967296 := by
  unfold lim at h
  cases hb : Nat.ble xs.length 4294967296 with
  | true => rw [hb] at h; cases h; exact ⟨rfl, Nat.le_of_ble_eq_true hb⟩
  | false => rw [hb] at h; cases h
/-- The elements of a slice that is read. -/
theorem elemsOf_ok (hh : HpR ρ H h) {c : C} {v : V} {T : Ty} {ys : List (I T)} (hc : CR ρ H c v) (he : elemsOf H T c = some ys) : ∃ ns, Abs.elems h (szT T) v = some ns ∧ FRl T ys ns := by
  unfold elemsOf at he
  split at he
  · rename_i T' xs hp
    obtain ⟨e, rfl⟩ := castL_some he
    subst e
    cases c <;> simp only [peek, Option.some.injEq, reduceCtorEq] at hp
    · cases hp
      obtain ⟨es, rfl, h4⟩ := hc.list
      exact ⟨es, by simp [Abs.elems], h4.frl⟩
    · cases hp
      cases hc with
      | fl h => cases h
      | lc k => exact ⟨_, by simp [Abs.elems], k.frl⟩
    · cases hp
      cases hc with
      | fl h => cases h
      | nil k => exact ⟨[], rfl, .nil⟩
    · split at hp
      · rename_i T2 n xs2 hr
        cases hp
        rcases hc.own hr with ⟨a, rfl, h4⟩ | ⟨rfl, h4⟩
        · obtain ⟨es, h5, h6⟩ := hh.at_ h4 hr
          have hl := h6.frl.len
          exact ⟨es, by simp [Abs.elems, h5, ← hl], h6.frl⟩
        · rcases hh.row _ n _ _ hr with ⟨a', es, h7, _⟩ | ⟨_, h7, _⟩
          · rw [h4] at h7; cases h7
          · subst h7; exact ⟨[], rfl, .nil⟩
      · cases hp
  · cases he
end
end Go.Proofs.Ytagnfckihdlhpaa.Den

/-
  den's operations that make own objects or change them are right: append and store.
-/
namespace Go.Proofs.Ytagnfckihdlhpaa.Den
open Go.RowKit
open Abs (V AV Env Heap ar)
section
variable {P : Program} {E : Abs.Cx} {F : In} {ρ : Rho} {H : List Ob} {D : List (Nat × AT)} {L : Env} {h : Heap} {d : Nat} {ty : TypeId} {pos : String} {af : Array Edge} {gd : Option (Nat × Bool)} {tb : Nat → Option TI}

theorem evo.goes (x : Ob) : evo x .gone := .inl rfl
theorem HpR.gone (hp : HpR ρ H h) {id : Nat} {x0 : Ob} (h0 : H[id]? = some x0) : HpR ρ (H.set id .gone) h := by
  have hev : Ev ρ H ρ (H.set id .gone) := Ev.set h0 (evo.goes _)
  refine HpR.mk' (by simp [hp.len]) (fun j z hz => ?_) hp.inj hp.lt
  rcases set_get hz with ⟨rfl, rfl, _⟩ | ⟨_, h1⟩
  · exact .inr (.inr rfl)
  · rcases hp.ob h1 with ⟨b, y', k1, k2, k3⟩ | k1 | k1
    · exact .inl ⟨b, y', k1, k2, k3.mono hev⟩
    · exact .inr (.inl k1)
    · exact .inr (.inr k1)
theorem Fr.gone (hf : Fr F ρ H h) {id : Nat} {x0 : Ob} (h0 : H[id]? = some x0) : Fr F ρ (H.set id .gone) h :=
  hf.step (Ev.set h0 (evo.goes _)) (Nat.le_refl _) (fun _ _ h1 => .inl h1) (fun _ _ _ => rfl)

/-- A row that is new: an own object, or a slice that is nil. -/
theorem new_row {T : Ty} (hT : 0 < szT T) (hp : HpR ρ H h) {xs : List (I T)} {es : List (List V)} (hx : FRl T xs es) :
    ATR (ρ ++ [some h.length]) (H ++ [.row T 0 xs]) (.one (.o H.length)) (.one (.own h.length 0 es.length)) ∧ HpR (ρ ++ [some h.length]) (H ++ [.row T 0 xs]) (h ++ [some (.row (szT T) es)]) := by
  refine ⟨.one ?_, hp.push ⟨es, rfl, hx.fr hT⟩⟩
  have := CR.o (ρ := ρ ++ [some h.length]) (H := H ++ [.row T 0 xs]) (id := H.length) (a := h.length) (n := 0) (T := T) (xs := xs) (by rw [← hp.len]; simp) (by simp)
  rw [hx.len]; exact this
theorem nil_row {T : Ty} (hT : 0 < szT T) (hp : HpR ρ H h) :
    ATR (ρ ++ [none]) (H ++ [.row T 0 []]) (.one (.o H.length)) (.one (.lit (.slice none 0 0))) ∧ HpR (ρ ++ [none]) (H ++ [.row T 0 []]) h :=
  ⟨.one (.oN (n := 0) (T := T) (xs := []) (by rw [← hp.len]; simp) (by simp)), hp.nilRow hT⟩

theorem op_append (htb : TBOK P tb) (hn : d < E.n) {t tx id n : Nat} {ti ui : TI} {T U : Ty} {x y : Operand} {cy : C} {xs ys zs : List (I T)} (ht : tb t = some ti) (he : ti.elem = some T) (hu : tb tx = some ui) (hue : ui.elem = some U) (hx : ev D x = some (.one (.o id))) (hr : H[id]? = some (.row T n xs)) (hy : ev D y = some (.one cy)) (hys : elemsOf H T cy = some ys) (hl : lim (xs ++ ys) = some zs) :
    OpOK P ⟨some d, .call ⟨.builtin .append, #[x, y], #[t, tx]⟩, ty, pos, af, gd⟩ E F D H (.one (.o H.length)) ((H.set id .gone) ++ [.row T 0 zs]) := fun ρ L h hs hh hf => by
  obtain ⟨rfl, hlim⟩ := lim_some hl
  obtain ⟨i, G⟩ := htb.get ht
  obtain ⟨el, z', g0, g1, g2, g3, g4, g5, g6, g7, g8⟩ := G.elem T he
  obtain ⟨j, G'⟩ := htb.get hu
  obtain ⟨el', z'', k0, _⟩ := G'.elem U hue
  obtain ⟨TB, b1, b2, b3⟩ := two_tb G.ty G'.ty
  obtain ⟨av, a1, a2⟩ := ev_ok hs hx
  obtain ⟨u, rfl, a3⟩ := a2.one'
  obtain ⟨av, c1, c2⟩ := ev_ok hs hy
  obtain ⟨v, rfl, c3⟩ := c2.one'
  obtain ⟨ns, n1, n2⟩ := elemsOf_ok hh c3 hys
  have hlen : (H.set id Ob.gone).length = H.length := by simp
  have hne : el.zero ≠ [] := by intro e; rw [e] at g5; simp at g5; omega
  simp only [List.length_append] at hlim
  have hev : Ev ρ H ρ (H.set id .gone) := Ev.set hr (evo.goes _)
  rcases a3.own hr with ⟨a, rfl, a4⟩ | ⟨rfl, a4⟩
  · obtain ⟨es, e1, e2⟩ := hh.at_ a4 hr
    have e3 := e2.frl
    have hp1 : HpR ρ (H.set id .gone) (h.set a none) := hh.set a4 hr (evo.goes _) trivial
    have hf1 : Fr F ρ (H.set id .gone) (h.set a none) := hf.set a4 hr (evo.goes _)
    obtain ⟨m1, m2⟩ := new_row g4 hp1 (e3.app n2)
    have hf2 := hf1.push (.row T 0 (xs ++ ys)) (some (.row (szT T) (es ++ ns)))
    rw [hlen] at m1
    rw [List.length_set] at m1 m2 hf2
    refine Abs.ar_append' b1 a1 (by unfold Abs.elOf; rw [b2]; exact g0) (by unfold Abs.elOf; rw [b3]; exact k0) hne g5 g3 e1 (by rw [Nat.zero_add, e3.len]) c1 n1 (by rw [n2.len]; omega) g7 hn ⟨ρ ++ [some h.length], _, rfl, ?_, m2, hev.trans (Ev.push _ _), hf2⟩
    rw [List.length_append, e3.len] at m1
    exact m1
  · obtain ⟨rfl, _⟩ : xs = [] ∧ True := by
      rcases hh.row _ n _ _ hr with ⟨a', es, h7, _⟩ | ⟨_, h7, _⟩
      · rw [a4] at h7; cases h7
      · exact ⟨h7, trivial⟩
    have hp1 : HpR ρ (H.set id .gone) h := hh.gone hr
    have hf1 : Fr F ρ (H.set id .gone) h := hf.gone hr
    cases ns with
    | nil =>
      have : ys = [] := by have := n2.len; cases ys with | nil => rfl | cons => simp at this
      subst this
      obtain ⟨m1, m2⟩ := nil_row g4 hp1
      rw [hlen] at m1
      exact Abs.ar_appendNil0 b1 a1 (by unfold Abs.elOf; rw [b2]; exact g0) (by unfold Abs.elOf; rw [b3]; exact k0) hne g5 g3 c1 n1 hn ⟨ρ ++ [none], _, rfl, m1, m2, hev.trans (Ev.push _ _), hf1.nilRow _⟩
    | cons n0 ns =>
      obtain ⟨m1, m2⟩ := new_row g4 hp1 n2
      rw [hlen] at m1
      exact Abs.ar_appendNil' b1 a1 (by unfold Abs.elOf; rw [b2]; exact g0) (by unfold Abs.elOf; rw [b3]; exact k0) hne g5 g3 c1 n1 (by simp) (by rw [n2.len]; omega) g7 hn ⟨ρ ++ [some h.length], _, rfl, m1, m2, hev.trans (Ev.push _ _), hf1.push _ _⟩
theorem op_appendNil (htb : TBOK P tb) (hn : d < E.n) {t tx : Nat} {ti ui : TI} {T U T' : Ty} {x y : Operand} {cy : C} {ys zs : List (I T)} (ht : tb t = some ti) (he : ti.elem = some T) (hu : tb tx = some ui) (hue : ui.elem = some U) (hx : ev D x = some (.one (.nil T'))) (hy : ev D y = some (.one cy)) (hys : elemsOf H T cy = some ys) (hl : lim ys = some zs) :
    OpOK P ⟨some d, .call ⟨.builtin .append, #[x, y], #[t, tx]⟩, ty, pos, af, gd⟩ E F D H (.one (.o H.length)) (H ++ [.row T 0 zs]) := fun ρ L h hs hh hf => by
  obtain ⟨rfl, hlim⟩ := lim_some hl
  obtain ⟨i, G⟩ := htb.get ht
  obtain ⟨el, z', g0, g1, g2, g3, g4, g5, g6, g7, g8⟩ := G.elem T he
  obtain ⟨j, G'⟩ := htb.get hu
  obtain ⟨el', z'', k0, _⟩ := G'.elem U hue
  obtain ⟨TB, b1, b2, b3⟩ := two_tb G.ty G'.ty
  obtain ⟨av, a1, a2⟩ := ev_ok hs hx
  obtain ⟨u, rfl, a3⟩ := a2.one'
  have : u = .lit (.slice none 0 0) := by cases a3 with | fl h => cases h | nil _ => rfl
  subst this
  obtain ⟨av, c1, c2⟩ := ev_ok hs hy
  obtain ⟨v, rfl, c3⟩ := c2.one'
  obtain ⟨ns, n1, n2⟩ := elemsOf_ok hh c3 hys
  have hne : el.zero ≠ [] := by intro e; rw [e] at g5; simp at g5; omega
  cases ns with
  | nil =>
    have : zs = [] := by have := n2.len; cases zs with | nil => rfl | cons => simp at this
    subst this
    obtain ⟨m1, m2⟩ := nil_row g4 hh
    exact Abs.ar_appendNil0 b1 a1 (by unfold Abs.elOf; rw [b2]; exact g0) (by unfold Abs.elOf; rw [b3]; exact k0) hne g5 g3 c1 n1 hn ⟨ρ ++ [none], _, rfl, m1, m2, Ev.push _ _, hf.nilRow _⟩
  | cons n0 ns =>
    obtain ⟨m1, m2⟩ := new_row g4 hh n2
    exact Abs.ar_appendNil' b1 a1 (by unfold Abs.elOf; rw [b2]; exact g0) (by unfold Abs.elOf; rw [b3]; exact k0) hne g5 g3 c1 n1 (by simp) (by rw [n2.len]; omega) g7 hn ⟨ρ ++ [some h.length], _, rfl, m1, m2, Ev.push _ _, hf.push _ _⟩

theorem unit_ok {ρ : Rho} {H : List Ob} : ATR ρ H (.tup []) (.tup []) := .tup rfl (fun j h => by simp at h)
theorem op_storeP (htb : TBOK P tb) {t id off : Nat} {ti : TI} {x y : Operand} {v : AT} {cs vs : List C} (ht : tb t = some ti) (hx : ev D x = some (.one (.p id off))) (hb : H[id]? = some (.box cs)) (hy : ev D y = some v) (hv : cells v = some vs) (h1 : ti.size = vs.length) (h2 : off + vs.length ≤ cs.length) :
    OpOK P ⟨none, .store t x y, ty, pos, af, gd⟩ E F D H (.tup []) (H.set id (.box (splice cs off vs))) := fun ρ L h hs hh hf => by
  obtain ⟨i, G⟩ := htb.get ht
  obtain ⟨av, a1, a2⟩ := ev_ok hs hx
  obtain ⟨u, rfl, a3⟩ := a2.one'
  obtain ⟨a, rfl, a4⟩ := a3.ptr
  obtain ⟨a', us, b1, b2, b3⟩ := hh.box id cs hb
  rw [a4] at b1
  cases b1
  obtain ⟨aw, c1, c2⟩ := ev_ok hs hy
  obtain ⟨ws, c3, c4⟩ := cells_ok hv c2
  have he : evo (.box cs) (.box (splice cs off vs)) := .inr (.inr (.inl ⟨_, _, rfl, rfl⟩))
  have hev : Ev ρ H ρ (H.set id (.box (splice cs off vs))) := Ev.set hb he
  have hsp := CRs.splice b3 c4 off
  have hlen : (Abs.splice us off ws).length = us.length := Abs.splice_len (by rw [← c4.1, ← b3.1]; exact h2)
  refine Abs.ar_store G.tb a1 c1 c3 G.look (by rw [G.size, h1, c4.1]) b2 rfl (by rw [← c4.1, ← b3.1]; exact h2) ⟨ρ, .tup [], rfl, unit_ok, ?_, hev, ?_⟩
  · exact hh.set a4 hb he ⟨_, by rw [hlen]; rfl, hsp.mono hev⟩
  · exact hf.set a4 hb he

theorem Imp1.app {a b c e : List V} (h : Imp1 a b) (k : Imp1 c e) : Imp1 (a ++ c) (b ++ e) := ⟨by simp [h.1, k.1], fun j h1 h2 => by
  by_cases hj : j < a.length
  · rw [List.getElem_append_left hj, List.getElem_append_left (by rw [← h.1]; exact hj)]
    exact h.2 j hj (by rw [← h.1]; exact hj)
  · rw [List.getElem_append_right (by omega), List.getElem_append_right (by rw [← h.1]; omega)]
    have := k.2 (j - a.length) (by simp at h1; omega) (by simp at h2; have := h.1; omega)
    have e := h.1
    simp only [e] at this ⊢
    exact this⟩
theorem FRs.app {a b : List C} {x y : List V} (h : FRs a x) (k : FRs b y) : FRs (a ++ b) (x ++ y) :=
  ⟨by simp [h.1, k.1], fun j h1 h2 => by
    by_cases hj : j < a.length
    · have hj' : j < x.length := by rw [← h.1]; exact hj
      rw [List.getElem_append_left hj, List.getElem_append_left hj']
      exact h.2 j hj hj'
    · have hj' : ¬ j < x.length := by rw [← h.1]; exact hj
      rw [List.getElem_append_right (by omega), List.getElem_append_right (by omega)]
      have := k.2 (j - a.length) (by simp at h1; omega) (by simp at h2; have := h.1; omega)
      have e := h.1
      simp only [e] at this ⊢
      exact this⟩
theorem FRs.take {a : List C} {x : List V} (h : FRs a x) (n : Nat) : FRs (a.take n) (x.take n) :=
  ⟨by simp [h.1], fun j h1 h2 => by
    simp only [List.getElem_take]
    exact h.2 j (by simp at h1; omega) (by simp at h2; omega)⟩
theorem FRs.drop {a : List C} {x : List V} (h : FRs a x) (n : Nat) : FRs (a.drop n) (x.drop n) :=
  ⟨by simp [h.1], fun j h1 h2 => by
    simp only [List.getElem_drop]
    exact h.2 (n + j) (by simp at h1; omega) (by simp at h2; omega)⟩
theorem FRs.splice {cs ds : List C} {vs us : List V} (h : FRs cs vs) (k : FRs ds us) (off : Nat) : FRs (splice cs off ds) (Abs.splice vs off us) := by
  unfold Den.splice Abs.splice
  rw [← k.1]
  exact (h.take off).app (k.app (h.drop _))
theorem Imps.set {a b : List (List V)} (h : Imps a b) {x y : List V} (hx : Imp1 x y) : ∀ k, Imps (a.set k x) (b.set k y) := by
  induction h with
  | nil => intro k; exact .nil
  | cons h k ih =>
    intro m
    cases m with
    | zero => exact .cons hx k
    | succ m => exact .cons h (ih m)
theorem flats_fr {ds : List C} {us : List V} (hf : ds.all flatC = true) (h : CRs [] [] ds us) : FRs ds us := ⟨h.1, fun j k1 k2 => flat_fr (List.all_eq_true.1 hf _ (List.getElem_mem k1)) (h.2 j k1 k2)⟩

theorem op_storeE (htb : TBOK P tb) {t id m n n' off : Nat} {ti : TI} {T : Ty} {e e' x' : I T} {x y : Operand} {v : AT} {vs ds : List C} {xs : List (I T)} (ht : tb t = some ti) (hx : ev D x = some (.one (.e id m n T e off))) (hr : H[id]? = some (.row T n' xs)) (hm : xs[m]? = some e') (hy : ev D y = some v) (hv : cells v = some vs) (hd : peeks [] vs = some ds) (hi : implode T (splice (explode T e') off ds) = some x')
    (h1 : ti.size = vs.length) (h2 : off + vs.length ≤ szT T) (hT : 0 < szT T) :
    OpOK P ⟨none, .store t x y, ty, pos, af, gd⟩ E F D H (.tup []) (H.set id (.row T (n' + 1) (xs.set m x'))) := fun ρ L h hs hh hf => by
  obtain ⟨i, G⟩ := htb.get ht
  obtain ⟨av, a1, a2⟩ := ev_ok hs hx
  obtain ⟨u, rfl, a3⟩ := a2.one'
  obtain ⟨a, xs', rfl, a4, a5, a6, a7, a8⟩ := a3.eptr hr
  obtain ⟨es, b1, b2⟩ := hh.at_ a4 hr
  obtain ⟨ee, b3, b4⟩ := b2.elem hm
  obtain ⟨aw, c1, c2⟩ := ev_ok hs hy
  obtain ⟨ws, c3, c4⟩ := cells_ok hv c2
  obtain ⟨us, u1, _, u3, u4⟩ := peeks0_ok hd c4
  have hex := implode_explode hi
  have hdf : ds.all flatC = true := by
    have hf := explode_flat hT x'
    rw [hex] at hf
    unfold splice at hf
    simp only [List.all_append, Bool.and_eq_true] at hf
    exact hf.2.1
  have hfr := (b4.splice (flats_fr hdf u1) off)
  rw [← hex] at hfr
  have hws : ws.length = vs.length := c4.1.symm
  have hel : ee.length = szT T := by rw [← b4.1, explode_len T hT]
  have himp : Imp1 (Abs.splice ee off ws) (Abs.splice ee off us) := by
    unfold Abs.splice
    refine (Imp1.refl _).app (Imp1.app ⟨u3, u4⟩ ?_)
    rw [← u3]; exact Imp1.refl _
  have hfl : FRl T (xs.set m x') (es.set m (Abs.splice ee off us)) := FRl.set hfr b2.frl m
  have he : evo (.row T n' xs) (.row T (n' + 1) (xs.set m x')) := .inr (.inl ⟨T, n', xs, n' + 1, _, rfl, rfl, by simp, by omega, fun e => by omega⟩)
  have hev : Ev ρ H ρ (H.set id (.row T (n' + 1) (xs.set m x'))) := Ev.set hr he
  have hr2 := Abs.ar_store (P := P) (E := E) (L := L) (h := h) (ty := ty) (pos := pos) (af := af) (gd := gd) (K := fun L2 h2 => L2 = L ∧ h2 = h.set a (some (.row (szT T) (es.set m (Abs.splice ee off ws))))) G.tb a1 c1 c3 G.look (by rw [G.size, h1, hws]) b1 b3 (by rw [hws]; exact h2) ⟨rfl, rfl⟩
  refine ar_post hr2 fun L2 h2' ⟨k1, k2⟩ => ?_
  subst k1 k2
  have halt : a < h.length := (List.getElem?_eq_some_iff.1 b1).1
  refine ⟨_, h.set a (some (.row (szT T) (es.set m (Abs.splice ee off us)))), ⟨ρ, .tup [], rfl, unit_ok, hh.set a4 hr he ⟨_, rfl, hfl.fr hT⟩, hev, hf.set a4 hr he⟩, fun Lf => ?_⟩
  have := Shift.imp (L := L2 ++ Lf) (h := h.set a (some (.row (szT T) (es.set m (Abs.splice ee off ws))))) (id := a) (s := szT T) (es := _) (es' := es.set m (Abs.splice ee off us)) (List.getElem?_set_self halt) ((Imps.refl es).set himp m) (hfl.lens hT)
  rw [List.set_set] at this
  exact this
end
end Go.Proofs.Ytagnfckihdlhpaa.Den

/-
  den's operations are right, put together.
-/
namespace Go.Proofs.Ytagnfckihdlhpaa.Den
open Go.RowKit
open Abs (V AV Env Heap ar)

/-- What a computation can give. -/
def Pl.has {X : Type} (p : Pl X) (x : X) : Prop := match p with
  | .no => False
  | .ret y => y = x
  | .opt m f => ∃ a, m = some a ∧ f a = some x
theorem Pl.run_has {X R : Type} {p : Pl X} {K : X → Option R} {r : R} (h : p.run K = some r) : ∃ x, p.has x ∧ K x = some r := by
  cases p with
  | no => cases h
  | ret x => exact ⟨x, rfl, h⟩
  | opt m f =>
    cases m with
    | none => cases h
    | some a =>
      simp only [Pl.run, Option.bind_some] at h
      split at h
      · rename_i x hx; exact ⟨x, ⟨a, rfl, hx⟩, h⟩
      · cases h
theorem Pl.has_run {X R : Type} {p : Pl X} {x : X} (h : p.has x) (K : X → Option R) : p.run K = K x := by
  cases p with
  | no => cases h
  | ret y => cases h; rfl
  | opt m f => obtain ⟨a, rfl, h⟩ := h; simp only [Pl.run, Option.bind_some, h]

section
variable {P : Program} {E : Abs.Cx} {F : In} {ρ : Rho} {H : List Ob} {D : List (Nat × AT)} {L : Env} {h : Heap} {d : Nat} {ty : TypeId} {pos : String} {af : Array Edge} {gd : Option (Nat × Bool)} {tb : Nat → Option TI}

theorem binV_ok {op : BinOp} {a b : C} {v : AT} (h : (binV op a b).has v) : ∃ c, v = .one c ∧ binP op a b some = some c := by
  have key : ∀ {p : Bool} {y : Int}, (∃ q, (bif p then some y else none) = some q ∧ (some (AT.one (.i q)) : Option AT) = some v) → ∃ c, v = .one c ∧ (bif p then some (C.i y) else none) = some c := by
    rintro p y ⟨q, h1, h2⟩
    cases p with
    | true => cases h1; cases h2; exact ⟨_, rfl, rfl⟩
    | false => cases h1
  unfold binV at h
  unfold binP
  split at h
  · exact key h
  · exact key h
  · exact key h
  · exact key h
  · exact key h
  · exact key h
  · split at h
    · rename_i c hc
      cases h
      exact ⟨c, rfl, rfl⟩
    · cases h

theorem bind_some {α β : Type} {m : Option α} {f : α → Option β} {b : β} (h : m.bind f = some b) : ∃ a, m = some a ∧ f a = some b := by
  cases m with
  | none => cases h
  | some a => exact ⟨a, rfl, h⟩

theorem valD_ok (htb : TBOK P tb) {o : Oper} {d : Nat} (hd : o.dst = some d) (hn : d < E.n) {v : AT} (hv : (valD tb o D H).has v) (hs : EncL ρ H D L) (hh : HpR ρ H h) : ValOK P o E ρ H L h v := by
  obtain ⟨dst, op, ty, pos, af, gd⟩ := o
  simp only at hd
  subst hd
  have hmove : ∀ {x : Operand}, Pl.has (match ev D x with
    | some (.one .zs) => match (tb ty).bind (·.elem) with
      | some T => .ret (.one (.nil T))
      | none => .no
    | some v => .ret v
    | none => .no) v → ∃ av, Abs.ev L x = some av ∧ ATR ρ H v av := by
    intro x hv
    split at hv
    · rename_i hx
      split at hv
      · rename_i T hT
        cases hv
        obtain ⟨ti, t1, t2⟩ := bind_some hT
        obtain ⟨i, G⟩ := htb.get t1
        obtain ⟨el, z', g0, g1, g2, g3, g4, _⟩ := G.elem T t2
        obtain ⟨av, h1, h2⟩ := ev_ok hs hx
        obtain ⟨u, rfl, h3⟩ := h2.one'
        have : u = .lit (.slice none 0 0) := by cases h3 with | fl h => cases h | zs => rfl
        subst this
        exact ⟨_, h1, .one (.nil g4)⟩
      · cases hv
    · rename_i hx
      cases hv
      exact ev_ok hs hx
    · cases hv
  unfold valD at hv
  simp only at hv
  split at hv
  · obtain ⟨av, h1, h2⟩ := hmove hv
    exact ⟨av, h2, Abs.ar_move h1 hn ⟨rfl, rfl⟩⟩
  · obtain ⟨av, h1, h2⟩ := hmove hv
    exact ⟨av, h2, Abs.ar_assign h1 hn ⟨rfl, rfl⟩⟩
  · split at hv
    · rename_i p hc
      cases p with
      | true =>
        simp only at hv
        split at hv
        · rename_i va ha; cases hv; exact ok_pick hs hn hc ha
        · cases hv
      | false =>
        simp only at hv
        split at hv
        · rename_i va ha; cases hv; exact ok_pick hs hn hc ha
        · cases hv
    · cases hv
  · rename_i t parts
    split at hv
    · rename_i ti ps h1 h2
      split at hv
      · rename_i f fs cs h3 h4
        cases hv
        have := ok_build (P := P) (E := E) (h := h) (ty := ty) (pos := pos) (af := af) (gd := gd) htb hs hn h1 h2 (by rw [h3]; simp) h4
        exact this
      · cases hv
    · cases hv
  · split at hv
    · rename_i ti id off h1 h2
      split at hv
      · rename_i fo _ h3; cases hv; exact ok_fieldP htb hs hn h1 h2 h3
      · cases hv
    · rename_i ti T y off h1 h2
      split at hv
      · rename_i fo _ h3; cases hv; exact ok_fieldQ htb hs hn h1 h2 h3
      · cases hv
    · rename_i ti id k n T y off h1 h2
      split at hv
      · rename_i _ _ _ fo _ h3 h4; cases hv; exact ok_fieldE htb hs hn h1 h2 h3 h4
      · cases hv
    · cases hv
  · split at hv
    · rename_i ti cs h1 h2
      split at hv
      · rename_i fo ft _ h3
        split at hv
        · rename_i fi h4
          split at hv
          · rename_i v' h5; cases hv; exact ok_part htb hs hn h1 h2 h3 h4 h5
          · cases hv
        · cases hv
      · cases hv
    · cases hv
  · split at hv
    · rename_i ti id off h1 h2
      split at hv
      · rename_i cs h3
        split at hv
        · rename_i v' h4; cases hv; exact ok_loadP htb hs hh hn h1 h2 h3 h4
        · cases hv
      · cases hv
    · rename_i ti T y off h1 h2
      split at hv
      · rename_i v' h4; cases hv; exact ok_loadQ htb hs hn h1 h2 h4
      · cases hv
    · rename_i ti id k n T y off h1 h2
      split at hv
      · rename_i T' n' xs h3
        obtain ⟨av, a1, a2⟩ := ev_ok hs h2
        obtain ⟨u, rfl, a3⟩ := a2.one'
        obtain ⟨a, xs', rfl, c4, c5, c6, c7, c8⟩ := a3.eptr h3
        split at hv
        · rename_i hb
          have hb := Nat.eq_of_beq_eq_true hb
          split at hv
          · rename_i v' h4; cases hv; exact ok_loadE htb hs hh hn h1 h2 c5 (c8 hb) h4
          · cases hv
        · split at hv
          · rename_i xs2 hc
            obtain ⟨e, rfl⟩ := castL_some hc
            subst e
            obtain ⟨y', e1, e2⟩ := hv
            exact ok_loadE htb hs hh hn h1 h2 h3 e1 e2
          · cases hv
      · cases hv
    · cases hv
  · split at hv
    · rename_i T' T xs i h1 h2 h3
      split at hv
      · rename_i hb
        obtain ⟨e, e1, e2⟩ := hv
        cases e2
        obtain ⟨ti, t1, t2⟩ := bind_some h1
        exact ok_indexL htb hs hn t1 t2 (Nat.eq_of_beq_eq_true hb) h2 h3 e1
      · cases hv
    · rename_i T' id i h1 h2 h3
      split at hv
      · rename_i T n xs h4
        split at hv
        · rename_i hb
          obtain ⟨e, e1, e2⟩ := hv
          cases e2
          obtain ⟨ti, t1, t2⟩ := bind_some h1
          exact ok_indexO htb hs hh hn t1 t2 (Nat.eq_of_beq_eq_true hb) h2 h4 h3 e1
        · cases hv
      · cases hv
    · cases hv
  · split at hv
    · rename_i T' T xs h1 h2
      split at hv
      · rename_i hb
        split at hv
        · rename_i a b h3 h4
          obtain ⟨ys, e1, e2⟩ := hv
          cases e2
          obtain ⟨ti, t1, t2⟩ := bind_some h1
          exact ok_slice htb hs hn t1 t2 (Nat.eq_of_beq_eq_true hb) h2 h3 h4 e1
        · cases hv
      · cases hv
    · cases hv
  · split at hv
    · rename_i h1; cases hv; exact ok_nilP hs hn h1
    · rename_i h1; cases hv; exact ok_nilQ hs hn h1
    · cases hv
  · split at hv
    · rename_i a b h1 h2
      split at hv
      · rename_i p
        split at hv
        · rename_i h3
          obtain ⟨ti, t1, t2⟩ := Option.map_eq_some_iff.1 h3
          obtain ⟨c, rfl, h4⟩ := binV_ok hv
          obtain ⟨c', h5, h6⟩ := ok_bin (P := P) (E := E) (h := h) (ty := ty) (pos := pos) (af := af) (gd := gd) hs hn h1 h2 (fun _ _ => ⟨ti, t1, t2⟩) htb h4
          cases h5
          exact h6
        · cases hv
      · rename_i hnb
        obtain ⟨c, rfl, h4⟩ := binV_ok hv
        obtain ⟨c', h5, h6⟩ := ok_bin (P := P) (E := E) (h := h) (ty := ty) (pos := pos) (af := af) (gd := gd) hs hn h1 h2 (fun p e => absurd e (hnb p)) htb h4
        cases h5
        exact h6
    · cases hv
  · split at hv
    · rename_i h1; cases hv; exact ok_not hs hn h1
    · cases hv
  · split at hv
    · rename_i xs h1
      split at hv
      · rename_i v' h2; cases hv; exact ok_extract hs hn h1 h2
      · cases hv
    · cases hv
  · split at hv
    · rename_i t1i ti a h1 h2 h3
      split at hv
      · rename_i h4; cases hv; exact ok_u8 htb hs hn h1 h2 h4 h3
      · cases hv
    · cases hv
  · rename_i args tys
    split at hv
    · rename_i x t ha ht
      obtain rfl : args = #[x] := by rw [← ha]
      obtain rfl : tys = #[t] := by rw [← ht]
      split at hv
      · rename_i ti s h1 h2
        split at hv
        · rename_i h3; cases hv; exact ok_lenS htb hs hn h1 h3 h2
        · cases hv
      · rename_i ti c h1 h2
        split at hv
        · rename_i T n h3 h4; cases hv; exact ok_len htb hs hh hn h1 h3 h2 h4
        · cases hv
      · cases hv
    · cases hv
  · cases hv
theorem effD_ok (htb : TBOK P tb) {o : Oper} {d : Nat} (hd : o.dst = some d) (hn : d < E.n) {v : AT} {H' : List Ob} (hv : (effD tb o D H).has (v, H')) : OpOK P o E F D H v H' := by
  obtain ⟨dst, op, ty, pos, af, gd⟩ := o
  simp only at hd
  subst hd
  unfold effD at hv
  simp only at hv
  split at hv
  · split at hv
    · rename_i ti h1; cases hv; exact op_alloc htb hn h1
    · cases hv
  · split at hv
    · rename_i cs h1
      cases hv
      obtain ⟨v', h2, h3⟩ := bind_some h1
      exact op_box hn h2 h3
    · cases hv
  · rename_i t len parts
    split at hv
    · rename_i T ps h1 h2
      split at hv
      · rename_i z h3
        split at hv
        · rename_i xs h4 h5
          cases hv
          obtain ⟨ti, t1, t2⟩ := bind_some h1
          exact op_buildSlice htb hn t1 t2 h3 h2 h4 h5
        · cases hv
      · cases hv
    · cases hv
  · split at hv
    · rename_i T n h1 h2 h3
      split at hv
      · rename_i z h4
        obtain ⟨xs, e1, e2⟩ := hv
        cases e2
        obtain ⟨ti, t1, t2⟩ := bind_some h1
        exact op_make htb hn t1 t2 h4 h2 h3 e1
      · cases hv
    · cases hv
  · rename_i args tys
    split at hv
    · rename_i x y t tx ha ht
      obtain rfl : args = #[x, y] := by rw [← ha]
      obtain rfl : tys = #[t, tx] := by rw [← ht]
      split at hv
      · rename_i T U cx cy h1 h2 h3 h4
        obtain ⟨ti, t1, t2⟩ := bind_some h1
        obtain ⟨ui, u1, u2⟩ := bind_some h2
        split at hv
        · rename_i ys h5
          split at hv
          · rename_i id
            split at hv
            · rename_i T' n xs h6
              split at hv
              · rename_i xs' h7
                obtain ⟨e, rfl⟩ := castL_some h7
                subst e
                obtain ⟨zs, e1, e2⟩ := hv
                cases e2
                exact op_append htb hn t1 t2 u1 u2 h3 h6 h4 h5 e1
              · cases hv
            · cases hv
          · obtain ⟨zs, e1, e2⟩ := hv
            cases e2
            exact op_appendNil htb hn t1 t2 u1 u2 h3 h4 h5 e1
          · cases hv
        · cases hv
      · cases hv
    · cases hv
  · cases hv
theorem immD_ok (htb : TBOK P tb) {o : Oper} {d : Nat} (hd : o.dst = some d) (hn : d < E.n) {v : AT} (hv : (immD tb o D).has v) : OpOK P o E F D H v H := by
  obtain ⟨dst, op, ty, pos, af, gd⟩ := o
  simp only at hd
  subst hd
  unfold immD at hv
  simp only at hv
  split at hv
  · rename_i t len parts
    split at hv
    · rename_i T ps h1 h2
      split at hv
      · rename_i z h3
        split at hv
        · rename_i xs h4 h5
          cases hv
          obtain ⟨ti, t1, t2⟩ := bind_some h1
          exact op_buildImm htb hn t1 t2 h3 h2 h4 h5
        · cases hv
      · cases hv
    · cases hv
  · cases hv
theorem opN_ok (htb : TBOK P tb) {o : Oper} (hd : o.dst = none) {H' : List Ob} (hv : (opN tb o D H).has H') : OpOK P o E F D H (.tup []) H' := by
  obtain ⟨dst, op, ty, pos, af, gd⟩ := o
  simp only at hd
  subst hd
  unfold opN at hv
  simp only at hv
  split at hv
  · split at hv
    · rename_i ti id off vs h1 h2 h3
      obtain ⟨v', k1, k2⟩ := bind_some h3
      split at hv
      · rename_i cs h4
        split at hv
        · rename_i hb
          simp only [Bool.and_eq_true] at hb
          cases hv
          exact op_storeP htb h1 h2 h4 k1 k2 (Nat.eq_of_beq_eq_true hb.1) (Nat.le_of_ble_eq_true hb.2)
        · cases hv
      · cases hv
    · rename_i ti id k n T e off vs h1 h2 h3
      obtain ⟨v', k1, k2⟩ := bind_some h3
      split at hv
      · rename_i ds h4
        split at hv
        · rename_i T' n' xs h5
          split at hv
          · rename_i xs' h6
            obtain ⟨eT, rfl⟩ := castL_some h6
            subst eT
            split at hv
            · rename_i hb
              simp only [Bool.and_eq_true] at hb
              have b1 := Nat.eq_of_beq_eq_true hb.1.1
              have b2 := Nat.le_of_ble_eq_true hb.1.2
              have b3 : 0 < szT T' := by simpa [Nat.blt_eq] using hb.2
              split at hv
              · rename_i hb
                have hb := Nat.eq_of_beq_eq_true hb
                split at hv
                · rename_i x' h7
                  cases hv
                  intro ρ L h hs hh hf
                  obtain ⟨av, a1, a2⟩ := ev_ok hs h2
                  obtain ⟨u, rfl, a3⟩ := a2.one'
                  obtain ⟨a, xs2, rfl, c4, c5, c6, c7, c8⟩ := a3.eptr h5
                  rw [h5] at c5
                  cases c5
                  exact op_storeE htb h1 h2 h5 (c8 hb) k1 k2 h4 h7 b1 b2 b3 ρ L h hs hh hf
                · cases hv
              · obtain ⟨e', e1, e2⟩ := hv
                dsimp only at e2
                split at e2
                · rename_i x' h7
                  cases e2
                  exact op_storeE htb h1 h2 h5 e1 k1 k2 h4 h7 b1 b2 b3
                · cases e2
            · cases hv
          · cases hv
        · cases hv
      · cases hv
    · cases hv
  · cases hv
end
end Go.Proofs.Ytagnfckihdlhpaa.Den

/-
  Own rows become immutable: den's words for it are right.
-/
namespace Go.Proofs.Ytagnfckihdlhpaa.Den
open Go.RowKit
open Abs (V AV Env Heap ar)

def trV (id s : Nat) (es : List (List V)) (c : C) (v : V) : V := match c with
  | .o j => if j = id then .imm s es else v
  | _ => v
def trA (id s : Nat) (es : List (List V)) : AT → AV → AV
  | .one c, .one v => .one (trV id s es c v)
  | .agg cs, .agg vs => .agg (List.zipWith (trV id s es) cs vs)
  | _, av => av
def trL (id s : Nat) (es : List (List V)) (D : List (Nat × AT)) (L : Env) : List Nat → Env
  | [] => []
  | t :: ts => match D.lookup t, L.lookup t with
    | some v, some av => (t, trA id s es v av) :: trL id s es D L ts
    | _, _ => trL id s es D L ts
theorem trL_lookup (id s : Nat) (es : List (List V)) (D : List (Nat × AT)) (L : Env) (t : Nat) : ∀ (ts : List Nat) (u : AV), (trL id s es D L ts).lookup t = some u → ∃ v av, D.lookup t = some v ∧ L.lookup t = some av ∧ u = trA id s es v av
  | [], u, h => by simp [trL] at h
  | k :: ts, u, h => by
    simp only [trL] at h
    split at h
    · rename_i v av h1 h2
      rw [List.lookup_cons] at h
      by_cases e : t = k
      · subst e; simp at h; exact ⟨v, av, h1, h2, h.symm⟩
      · have : (t == k) = false := by simpa using e
        rw [this] at h
        exact trL_lookup id s es D L t ts u h
    · exact trL_lookup id s es D L t ts u h
theorem trL_mem (id s : Nat) (es : List (List V)) (D : List (Nat × AT)) (L : Env) (t : Nat) {v : AT} {av : AV} (h1 : D.lookup t = some v) (h2 : L.lookup t = some av) : ∀ (ts : List Nat), t ∈ ts → (trL id s es D L ts).lookup t = some (trA id s es v av)
  | [], h => by simp at h
  | k :: ts, h => by
    by_cases e : t = k
    · subst e
      simp [trL, h1, h2]
    · have hm : t ∈ ts := by rcases List.mem_cons.1 h with h | h; exact absurd h e; exact h
      have ih := trL_mem id s es D L t h1 h2 ts hm
      simp only [trL]
      split
      · rw [List.lookup_cons]
        have : (t == k) = false := by simpa using e
        rw [this]; exact ih
      · exact ih
theorem lookup_key {α : Type} {D : List (Nat × α)} {t : Nat} {v : α} (h : D.lookup t = some v) : t ∈ D.map Prod.fst := by
  induction D with
  | nil => simp at h
  | cons p D ih =>
    rw [List.lookup_cons] at h
    by_cases e : t = p.1
    · simp [e]
    · have : (t == p.1) = false := by simpa using e
      rw [this] at h
      simp [ih h]
theorem lookup_map {D : List (Nat × AT)} {f : AT → AT} {t : Nat} : (D.map fun p => (p.1, f p.2)).lookup t = (D.lookup t).map f := by
  induction D with
  | nil => rfl
  | cons p D ih =>
    obtain ⟨k, z⟩ := p
    simp only [List.map_cons]
    rw [List.lookup_cons, List.lookup_cons]
    cases t == k with
    | true => rfl
    | false => exact ih

section
variable {P : Program} {E : Abs.Cx} {F : In} {ρ : Rho} {H : List Ob} {D : List (Nat × AT)} {L : Env} {h : Heap}

theorem cr_fz {id n : Nat} {T : Ty} {xs : List (I T)} {es : List (List V)} (hr : H[id]? = some (.row T n xs)) (hx : FR (.l T xs) (.imm (szT T) es)) {c : C} {v : V} (hc : CR ρ H c v) : CR ρ (H.set id .gone) (c.fz id T xs) (trV id (szT T) es c v) := by
  have hev : Ev ρ H ρ (H.set id .gone) := Ev.set hr (evo.goes _)
  by_cases e : c = .o id
  · subst e
    simp only [C.fz, trV, if_true]
    rw [if_pos (Nat.beq_refl id)]
    exact .fl hx
  · have e1 : c.fz id T xs = c := by
      cases c <;> simp only [C.fz]
      rename_i j
      rw [if_neg (fun hb => e (by rw [Nat.eq_of_beq_eq_true hb]))]
    have e2 : trV id (szT T) es c v = v := by
      unfold trV
      split
      · rename_i j
        rw [if_neg (fun hb => e (by rw [hb]))]
      · rfl
    rw [e1, e2]
    exact hc.mono hev
theorem crs_fz {id n : Nat} {T : Ty} {xs : List (I T)} {es : List (List V)} (hr : H[id]? = some (.row T n xs)) (hx : FR (.l T xs) (.imm (szT T) es)) {cs : List C} {vs : List V} (hc : CRs ρ H cs vs) : CRs ρ (H.set id .gone) (cs.map (C.fz id T xs)) (List.zipWith (trV id (szT T) es) cs vs) :=
  ⟨by simp [hc.1], fun j h1 h2 => by
    simp only [List.getElem_map, List.getElem_zipWith]
    exact cr_fz hr hx (hc.2 j (by simpa using h1) (by have := hc.1; simp at h1; omega))⟩
theorem atr_fz {id n : Nat} {T : Ty} {xs : List (I T)} {es : List (List V)} (hr : H[id]? = some (.row T n xs)) (hx : FR (.l T xs) (.imm (szT T) es)) {v : AT} {av : AV} (hc : ATR ρ H v av) : ATR ρ (H.set id .gone) (v.fz id T xs) (trA id (szT T) es v av) := by
  cases hc with
  | one h => exact .one (cr_fz hr hx h)
  | agg h => exact .agg (crs_fz hr hx h)
  | tup hl h => exact (ATR.tup hl h).mono (Ev.set hr (evo.goes _))

/-- What is known of slots that den knows, when what they hold is told otherwise. -/
theorem rel_tr {E : Abs.Cx} {h2 : Heap} {ι : List Abs.Inf} {I I' : Nat → Prop} {a : Act} {w : World} {id s : Nat} {es : List (List V)} (r : Abs.Rel E L h ι I a w) (r' : Abs.Rel E L h2 ι I' a w) (hk : Abs.Keeps I I' w w) (hs : EncL ρ H D L)
    (hv : ∀ (c : C) (v : V) (u : Value), CR ρ H c v → Abs.VR I w ι v u → Abs.VR I' w ι (trV id s es c v) u) : Abs.Rel E (trL id s es D L (D.map Prod.fst)) h2 ι I' a w := by
  refine { r' with slots := fun t u hu => ?_ }
  obtain ⟨v, av, h1, h2', rfl⟩ := trL_lookup id s es D L t _ u hu
  obtain ⟨av', h3, h4⟩ := hs t v h1
  rw [h2'] at h3
  cases h3
  obtain ⟨c, k1, k2⟩ := r.slots t av h2'
  refine ⟨c, k1, ?_⟩
  cases h4 with
  | one hc => cases k2 with | one k2 => exact .one (hv _ _ _ hc k2)
  | @agg cs vs hc =>
    cases k2 with
    | agg hl hcs hr =>
      have hlen := hc.1
      refine .agg (by simp [hl, hlen]) (fun j hj => hcs j (by simp at hj; omega)) (fun j hj => ?_)
      simp only [List.getElem_zipWith]
      exact hv _ _ _ (hc.2 j (by simp at hj; omega) (by simp at hj; omega)) (hr j (by simp at hj; omega))
  | tup hl hh => exact k2.keep (Abs.Grows.refl _) hk

/-- The cells of the box that lies at a place. -/
def boxAt : Rho → List Ob → Nat → Option (List C)
  | some b :: ρ, .box cs :: H, a => if b = a then some cs else boxAt ρ H a
  | _ :: ρ, _ :: H, a => boxAt ρ H a
  | _, _, _ => none
theorem boxAt_some : ∀ {ρ : Rho} {H : List Ob} {a : Nat} {cs : List C}, boxAt ρ H a = some cs → ∃ id : Nat, ρ[id]? = some (some a) ∧ H[id]? = some (Ob.box cs)
  | [], H, a, cs, h => by unfold boxAt at h; cases h
  | x :: ρ, [], a, cs, h => by unfold boxAt at h; cases x <;> cases h
  | x :: ρ, o :: H, a, cs, h => by
    have up : boxAt ρ H a = some cs → ∃ id : Nat, (x :: ρ)[id]? = some (some a) ∧ (o :: H)[id]? = some (Ob.box cs) := fun h => by
      obtain ⟨id, h1, h2⟩ := boxAt_some h
      exact ⟨id + 1, by simpa using h1, by simpa using h2⟩
    unfold boxAt at h
    split at h
    · rename_i b _ ds _ _ e1 e2
      cases e1
      cases e2
      split at h
      · rename_i e; subst e; cases h; exact ⟨0, rfl, rfl⟩
      · exact up h
    · rename_i e1 e2; cases e1; cases e2; exact up h
    · cases h
theorem boxAt_mem : ∀ {ρ : Rho} {H : List Ob} {a id : Nat} {cs : List C}, (∀ (i j : Nat), ρ[i]? = some (some a) → ρ[j]? = some (some a) → i = j) → ρ[id]? = some (some a) → H[id]? = some (.box cs) → boxAt ρ H a = some cs
  | [], H, a, id, cs, _, h1, _ => by simp at h1
  | x :: ρ, [], a, id, cs, _, _, h2 => by simp at h2
  | x :: ρ, o :: H, a, id, cs, hi, h1, h2 => by
    cases id with
    | zero =>
      simp at h1 h2
      subst h1 h2
      simp [boxAt]
    | succ id =>
      have hne : x ≠ some a := fun e => by
        have := hi 0 (id + 1) (by simp [e]) h1
        omega
      have ih := boxAt_mem (ρ := ρ) (H := H) (a := a) (id := id) (cs := cs) (fun i j a1 a2 => by have := hi (i + 1) (j + 1) (by simpa using a1) (by simpa using a2); omega) (by simpa using h1) (by simpa using h2)
      unfold boxAt
      split
      · rename_i b _ ds _ _ e1 e2
        cases e1
        cases e2
        rw [if_neg (fun e => hne (by rw [e]))]
        exact ih
      · rename_i e1 e2; cases e1; cases e2; exact ih
      · rename_i hx
        exact (hx _ _ _ _ rfl rfl).elim
def trO (id s : Nat) (es : List (List V)) (ρ : Rho) (H : List Ob) (a : Nat) (o : Option Abs.Ob) : Option Abs.Ob := match boxAt ρ H a, o with
  | some cs, some (.row k [vs]) => some (.row k [List.zipWith (trV id s es) cs vs])
  | _, o => o
def trHp (id s : Nat) (es : List (List V)) (ρ : Rho) (H : List Ob) (h : Heap) : Heap := h.mapIdx (trO id s es ρ H)
theorem trHp_get {id s : Nat} {es : List (List V)} {a : Nat} : (trHp id s es ρ H h)[a]? = (h[a]?).map (trO id s es ρ H a) := by simp [trHp]
theorem trO_none {id s : Nat} {es : List (List V)} {a : Nat} {o : Option Abs.Ob} (h : boxAt ρ H a = none) : trO id s es ρ H a o = o := by unfold trO; rw [h]
theorem trO_some {id s : Nat} {es : List (List V)} {a : Nat} {o : Option Abs.Ob} {x : Abs.Ob} (h : trO id s es ρ H a o = some x) : ∃ y, o = some y := by
  cases o with
  | some y => exact ⟨y, rfl⟩
  | none => cases hb : boxAt ρ H a <;> simp [trO, hb] at h

/-- The objects, told otherwise. -/
theorem rel_trH {E : Abs.Cx} {L2 : Env} {hb : Heap} {ι : List Abs.Inf} {I I' : Nat → Prop} {a : Act} {w : World} {id s : Nat} {es : List (List V)} (r : Abs.Rel E L h ι I a w) (r' : Abs.Rel E L2 hb ι I' a w) (hp : HpR ρ H h) (hsub : ∀ (b : Nat) (o : Abs.Ob), hb[b]? = some (some o) → h[b]? = some (some o))
    (hv : ∀ (c : C) (v : V) (u : Value), CR ρ H c v → Abs.VR I w ι v u → Abs.VR I' w ι (trV id s es c v) u) : Abs.Rel E L2 (trHp id s es ρ H hb) ι I' a w := by
  have dn : ∀ {b : Nat} {o : Abs.Ob}, (trHp id s es ρ H hb)[b]? = some (some o) → ∃ o0, hb[b]? = some (some o0) ∧ trO id s es ρ H b (some o0) = some o := fun {b o} hx => by
    rw [trHp_get] at hx
    obtain ⟨o1, h1, h2⟩ := Option.map_eq_some_iff.1 hx
    obtain ⟨y, rfl⟩ := trO_some h2
    exact ⟨y, h1, h2⟩
  exact
  { r' with
    heap := by
      refine ⟨by simp [trHp, r'.heap.len], fun b o f x y => ?_, fun b o f x y => ?_, fun b b' o o' f f' x x' y y' e => ?_⟩
      · obtain ⟨o0, k1, k2⟩ := dn x
        have hor := r'.heap.obj b o0 f k1 y
        unfold trO at k2
        split at k2
        · rename_i cs k vs hb1 e
          cases e
          cases k2
          obtain ⟨id', g1, g2⟩ := boxAt_some hb1
          obtain ⟨a', vs', m1, m2, m3⟩ := hp.box id' cs g2
          rw [g1] at m1
          cases m1
          rw [hsub b _ k1] at m2
          cases m2
          obtain ⟨cur, t, q1, q2, q3, q4, q5, q6, q7⟩ := r.heap.obj b _ f (hsub b _ k1) y
          have hlen := m3.1
          refine ⟨cur, t, q1, q2, q3, q4, by simpa using q5, fun e he => by simp at he; subst he; simp [hlen], fun k hk j hj => ?_⟩
          simp at hk
          subst hk
          simp only [List.getElem_cons_zero] at hj ⊢
          have hj' : j < vs.length := by simp at hj; omega
          obtain ⟨u, u1, u2⟩ := q7 0 (by simp) j (by simpa using hj')
          refine ⟨u, u1, ?_⟩
          rw [List.getElem_zipWith]
          exact hv _ _ _ (m3.2 j (by simp at hj; omega) hj') (by simpa using u2)
        · rename_i hne
          cases k2
          exact hor
      · obtain ⟨o0, k1, _⟩ := dn x
        exact r'.heap.off b o0 f k1 y
      · obtain ⟨o0, k1, _⟩ := dn x
        obtain ⟨o1, k2, _⟩ := dn x'
        exact r'.heap.inj b b' o0 o1 f f' k1 k2 y y' e
    mine := fun b o f x y => by
      obtain ⟨o0, k1, _⟩ := dn x
      exact r'.mine b o0 f k1 y }

theorem fz_ev {id n : Nat} {T : Ty} {xs : List (I T)} (hr : H[id]? = some (.row T n xs)) : Ev ρ (H.set id .gone) ρ ((H.set id .gone).map (Ob.fz id T xs)) :=
  ⟨fun _ _ h => h, fun j x hx => ⟨x.fz id T xs, by rw [List.getElem?_map, hx]; rfl, by
    cases x with
    | box cs => exact .inr (.inr (.inl ⟨_, _, rfl, rfl⟩))
    | row T n xs => exact evo.refl _
    | map T kvs => exact evo.refl _
    | gone => exact evo.refl _⟩⟩

theorem fz_heap {id n s : Nat} {T : Ty} {xs : List (I T)} {es : List (List V)} {hb : Heap} (hs : s = szT T) (hp : HpR ρ H h) (hr : H[id]? = some (.row T n xs)) (hx : FR (.l T xs) (.imm (szT T) es)) (hbk : ∀ (b : Nat), ρ[id]? ≠ some (some b) → hb[b]? = h[b]?) (hbl : hb.length = h.length) :
    HpR ρ ((H.set id .gone).map (Ob.fz id T xs)) (trHp id s es ρ H hb) := by
  subst hs
  have hev := fz_ev (ρ := ρ) hr
  refine HpR.mk' (by simp [hp.len]) (fun j x hx' => ?_) hp.inj (fun i b hi => by simp [trHp, hbl]; exact hp.lt i b hi)
  simp only [List.getElem?_map, Option.map_eq_some_iff] at hx'
  obtain ⟨x0, k1, rfl⟩ := hx'
  rcases set_get k1 with ⟨rfl, rfl, _⟩ | ⟨hne, k1⟩
  · exact .inr (.inr rfl)
  · have hbox : ∀ {b : Nat}, ρ[j]? = some (some b) → (∀ cs, x0 ≠ .box cs) → boxAt ρ H b = none := fun {b} hb1 hn => by
      cases hq : boxAt ρ H b with
      | none => rfl
      | some cs =>
        obtain ⟨id', g1, g2⟩ := boxAt_some hq
        have := hp.inj _ _ _ g1 hb1
        subst this
        rw [k1] at g2
        cases g2
        exact absurd rfl (hn cs)
    have hb' : ∀ {b : Nat}, ρ[j]? = some (some b) → hb[b]? = h[b]? := fun {b} hb1 => hbk b fun e => hne (hp.inj _ _ _ hb1 e)
    rcases hp.ob k1 with ⟨b, y, m1, m2, m3⟩ | ⟨m1, T', n', rfl, m3⟩ | rfl
    · refine .inl ⟨b, trO id (szT T) es ρ H b y, m1, by rw [trHp_get, hb' m1, m2]; rfl, ?_⟩
      cases x0 with
      | box cs =>
        obtain ⟨vs, rfl, q⟩ := m3
        have hq := boxAt_mem (H := H) (fun i j a1 a2 => hp.inj i j b a1 a2) m1 k1
        refine ⟨List.zipWith (trV id (szT T) es) cs vs, ?_, (crs_fz hr hx q).mono hev⟩
        unfold trO
        rw [hq]
        simp [q.1]
      | row T' n' xs' => rw [trO_none (hbox m1 (fun cs e => by cases e))]; exact m3
      | map T' kvs => rw [trO_none (hbox m1 (fun cs e => by cases e))]; exact m3
      | gone => trivial
    · exact .inr (.inl ⟨m1, T', n', rfl, m3⟩)
    · exact .inr (.inr rfl)
theorem fz_fr {id n s : Nat} {T : Ty} {xs : List (I T)} {es : List (List V)} {hb : Heap} (hf : Fr F ρ H h) (hr : H[id]? = some (.row T n xs)) (hbk : ∀ (b : Nat), ρ[id]? ≠ some (some b) → hb[b]? = h[b]?) (hbl : hb.length = h.length) :
    Fr F ρ ((H.set id .gone).map (Ob.fz id T xs)) (trHp id s es ρ H hb) :=
  hf.step ((Ev.set hr (evo.goes _)).trans (fz_ev hr)) (by simp [trHp, hbl]) (fun _ _ h1 => .inl h1) (fun b hb1 hn => by
    rw [trHp_get, hbk b (hn id)]
    have : boxAt ρ H b = none := by
      cases hq : boxAt ρ H b with
      | none => rfl
      | some cs => obtain ⟨id', g1, _⟩ := boxAt_some hq; exact absurd g1 (hn id')
    cases h[b]? with
    | none => rfl
    | some o => simp [trO_none this])

/-- An own row becomes immutable. -/
theorem fz_ok {st : St} (hs : SR F ρ st L h) {id n : Nat} {T : Ty} {xs : List (I T)} (hr : st.H[id]? = some (.row T n xs)) : ∃ L2 h2, Abs.Shift L h L2 h2 ∧ SR F ρ (st.fz id T xs) L2 h2 := by
  have enc : ∀ es, FR (.l T xs) (.imm (szT T) es) → EncL ρ ((st.H.set id .gone).map (Ob.fz id T xs)) (st.L.map fun p => (p.1, p.2.fz id T xs)) (trL id (szT T) es st.L L (st.L.map Prod.fst)) := fun es hx t v hv => by
    rw [lookup_map] at hv
    obtain ⟨v0, h1, rfl⟩ := Option.map_eq_some_iff.1 hv
    obtain ⟨av, h2, h3⟩ := hs.slots t v0 h1
    exact ⟨_, trL_mem id _ es st.L L t h1 h2 _ (lookup_key h1), (atr_fz hr hx h3).mono (fz_ev hr)⟩
  rcases hs.heap.row id n T xs hr with ⟨a, es, h1, h2, h3⟩ | ⟨h1, rfl, h3⟩
  · have hbk : ∀ (b : Nat), ρ[id]? ≠ some (some b) → (h.set a none)[b]? = h[b]? := fun b hb => List.getElem?_set_ne (fun e => hb (by rw [← e]; exact h1))
    refine ⟨trL id (szT T) es st.L L (st.L.map Prod.fst), trHp id (szT T) es ρ st.H (h.set a none), ⟨fun E ι I act w r => ?_⟩, enc es h3, fz_heap rfl hs.heap hr h3 hbk (by simp), fz_fr hs.fr hr hbk (by simp)⟩
    obtain ⟨inf, hι, _, _⟩ := r.row h2
    have hv : ∀ (c : C) (v : V) (u : Value), CR ρ st.H c v → Abs.VR I w ι v u → Abs.VR (fun b => I b ∨ b = inf.block) w ι (trV id (szT T) es c v) u := fun c v u hc hv => by
      have hk : Abs.Keeps I (fun b => I b ∨ b = inf.block) w w := ⟨fun _ h => .inl h, fun _ _ _ => rfl⟩
      by_cases e : c = .o id
      · subst e
        simp only [trV, if_true]
        rcases hc.own hr with ⟨a', rfl, h4⟩ | ⟨rfl, h4⟩
        · rw [h1] at h4
          cases h4
          have hl := h3.frl.len
          have := Abs.VR.fz r h2 hι h3.flats hv (Abs.fits_ok (by simp [Abs.V.fits, hl]))
          simpa [Abs.V.fz, ← hl] using this
        · rw [h1] at h4; cases h4
      · have e2 : trV id (szT T) es c v = v := by
          unfold trV
          split
          · rename_i j
            rw [if_neg (fun hb => e (by rw [hb]))]
          · rfl
        rw [e2]
        exact hv.keep (Abs.Grows.refl _) hk
    refine ⟨_, rel_trH r (rel_tr r (r.freeze h2 hι) ⟨fun _ h => .inl h, fun _ _ _ => rfl⟩ hs.slots hv) hs.heap (fun b o hb => ?_) hv⟩
    rcases set_get hb with ⟨_, e, _⟩ | ⟨_, hb⟩
    · cases e
    · exact hb
  · refine ⟨trL id (szT T) [] st.L L (st.L.map Prod.fst), trHp id (szT T) [] ρ st.H h, ⟨fun E ι I act w r => ?_⟩, enc [] (.nil_ h3), fz_heap rfl hs.heap hr (.nil_ h3) (fun _ _ => rfl) rfl, fz_fr hs.fr hr (fun _ _ => rfl) rfl⟩
    have hv : ∀ (c : C) (v : V) (u : Value), CR ρ st.H c v → Abs.VR I w ι v u → Abs.VR I w ι (trV id (szT T) [] c v) u := fun c v u hc hv => by
      by_cases e : c = .o id
      · subst e
        simp only [trV, if_true]
        rcases hc.own hr with ⟨a', rfl, h4⟩ | ⟨rfl, h4⟩
        · rw [h1] at h4; cases h4
        · cases hv; exact .imm0 (Nat.zero_le _)
      · have e2 : trV id (szT T) [] c v = v := by
          unfold trV
          split
          · rename_i j
            rw [if_neg (fun hb => e (by rw [hb]))]
          · rfl
        rw [e2]
        exact hv
    exact ⟨I, rel_trH r (rel_tr r r (Abs.Keeps.refl _ _) hs.slots hv) hs.heap (fun _ _ h => h) hv⟩
theorem fzIds_ok : ∀ {ids : List Nat} {st : St} {L : Env} {h : Heap}, SR F ρ st L h → ∃ L2 h2, Abs.Shift L h L2 h2 ∧ SR F ρ (fzIds ids st) L2 h2
  | [], st, L, h, hs => ⟨L, h, .refl _ _, hs⟩
  | id :: ids, st, L, h, hs => by
    simp only [fzIds]
    split
    · rename_i T n xs hr
      obtain ⟨L2, h2, k1, k2⟩ := fz_ok hs hr
      obtain ⟨L3, h3, k3, k4⟩ := fzIds_ok (ids := ids) k2
      exact ⟨L3, h3, k1.trans k3, k4⟩
    · exact fzIds_ok hs
end
end Go.Proofs.Ytagnfckihdlhpaa.Den

/-
  Objects numbered anew, slices that are nil as own rows: den's words for it are right.
-/
namespace Go.Proofs.Ytagnfckihdlhpaa.Den
open Go.RowKit
open Abs (V AV Env Heap ar)

theorem pos_some : ∀ {ks : List Nat} {id j : Nat}, pos ks id = some j → ks[j]? = some id
  | [], _, _, h => by cases h
  | k :: ks, id, j, h => by
    simp only [pos] at h
    split at h
    · rename_i hb; cases h; simp [Nat.eq_of_beq_eq_true hb]
    · split at h
      · rename_i m hm; cases h; simpa using pos_some hm
      · cases h
theorem nodup_inj : ∀ {ks : List Nat}, nodupB ks = true → ∀ {i j x : Nat}, ks[i]? = some x → ks[j]? = some x → i = j
  | [], _, _, _, _, h, _ => by simp at h
  | k :: ks, hn, i, j, x, h1, h2 => by
    simp only [nodupB, Bool.and_eq_true, Bool.not_eq_true'] at hn
    have hk : k ∉ ks := by
      intro hm
      have := hn.1
      rw [List.contains_iff_mem.2 hm] at this
      cases this
    cases i with
    | zero =>
      cases j with
      | zero => rfl
      | succ j =>
        simp at h1 h2
        subst h1
        exact absurd (List.mem_of_getElem? h2) hk
    | succ i =>
      cases j with
      | zero =>
        simp at h1 h2
        subst h2
        exact absurd (List.mem_of_getElem? h1) hk
      | succ j => simp at h1 h2; rw [nodup_inj hn.2 h1 h2]
theorem getAll_some {H : List Ob} : ∀ {ks : List Nat} {xs : List Ob}, getAll H ks = some xs → xs.length = ks.length ∧ ∀ (j id : Nat), ks[j]? = some id → ∃ x, H[id]? = some x ∧ xs[j]? = some x
  | [], xs, h => by cases h; exact ⟨rfl, fun j id h => by simp at h⟩
  | k :: ks, xs, h => by
    simp only [getAll] at h
    split at h
    · rename_i x ys h1 h2
      cases h
      obtain ⟨i1, i2⟩ := getAll_some h2
      refine ⟨by simp [i1], fun j id hj => ?_⟩
      cases j with
      | zero => simp at hj; subst hj; exact ⟨x, h1, rfl⟩
      | succ j => exact i2 j id (by simpa using hj)
    · cases h
theorem obs_some {g : Nat → Option Nat} : ∀ {xs ys : List Ob}, obs g xs = some ys → ys.length = xs.length ∧ ∀ (j : Nat) (x : Ob), xs[j]? = some x → ∃ y, ys[j]? = some y ∧ x.mv g = some y
  | [], ys, h => by cases h; exact ⟨rfl, fun j id h => by simp at h⟩
  | k :: ks, xs, h => by
    simp only [obs] at h
    split at h
    · rename_i x ys h1 h2
      cases h
      obtain ⟨i1, i2⟩ := obs_some h2
      refine ⟨by simp [i1], fun j id hj => ?_⟩
      cases j with
      | zero => simp at hj; subst hj; exact ⟨x, rfl, h1⟩
      | succ j => exact i2 j id (by simpa using hj)
    · cases h
theorem pickH_some {keep : List Nat} {H Hc : List Ob} (h : pickH keep H = some Hc) : Hc.length = keep.length ∧ ∀ (j id : Nat), keep[j]? = some id → ∃ x y, H[id]? = some x ∧ x.mv (pos keep) = some y ∧ Hc[j]? = some y.anew := by
  unfold pickH at h
  split at h
  · rename_i xs h1
    split at h
    · rename_i ys h2
      cases h
      obtain ⟨a1, a2⟩ := getAll_some h1
      obtain ⟨b1, b2⟩ := obs_some h2
      refine ⟨by simp [a1, b1], fun j id hj => ?_⟩
      obtain ⟨x, c1, c2⟩ := a2 j id hj
      obtain ⟨y, d1, d2⟩ := b2 j x c2
      exact ⟨x, y, c1, d2, by simp [d1]⟩
    · cases h
  · cases h
def pickρ (ρ : Rho) (keep : List Nat) : Rho := keep.map fun id => (ρ[id]?).getD none

/-- Cells whose ids are named anew. -/
def MvOK (g : Nat → Option Nat) (ρ : Rho) (H : List Ob) (ρ' : Rho) (H' : List Ob) : Prop := ∀ (id j : Nat), g id = some j → (∀ x, ρ[id]? = some x → ρ'[j]? = some x) ∧ ∀ (x : Ob), H[id]? = some x → ∃ y n, H'[j]? = some y ∧ (x = .gone → y = .gone) ∧ ∀ T m xs, x = .row T m xs → y = .row T n xs
section
variable {P : Program} {E : Abs.Cx} {F : In} {ρ ρ' : Rho} {H H' : List Ob} {D : List (Nat × AT)} {L : Env} {h : Heap} {g : Nat → Option Nat}
theorem cr_mv (hg : MvOK g ρ H ρ' H') {c c' : C} {v : V} (hc : CR ρ H c v) (hm : c.mv g = some c') : CR ρ' H' c' v := by
  have ho : ∀ {id : Nat}, c = .o id → ∃ j, g id = some j ∧ c' = .o j := fun {id} e => by
    subst e
    simp only [C.mv] at hm
    split at hm
    · rename_i j hj; cases hm; exact ⟨j, hj, rfl⟩
    · cases hm
  cases hc with
  | fl h =>
    have : c' = c := by cases h <;> (simp only [C.mv, Option.some.injEq] at hm; exact hm.symm)
    rw [this]; exact .fl h
  | lc h => simp only [C.mv, Option.some.injEq] at hm; subst hm; exact .lc h
  | nil h => simp only [C.mv, Option.some.injEq] at hm; subst hm; exact .nil h
  | o h1 h2 =>
    obtain ⟨j, h3, rfl⟩ := ho rfl
    obtain ⟨k1, k2⟩ := hg _ _ h3
    obtain ⟨y, n, k3, _, k5⟩ := k2 _ h2
    have := k5 _ _ _ rfl
    subst this
    exact .o (k1 _ h1) k3
  | oN h1 h2 =>
    obtain ⟨j, h3, rfl⟩ := ho rfl
    obtain ⟨k1, k2⟩ := hg _ _ h3
    obtain ⟨y, n, k3, _, k5⟩ := k2 _ h2
    have := k5 _ _ _ rfl
    subst this
    exact .oN (k1 _ h1) k3
  | oG h1 =>
    obtain ⟨j, h3, rfl⟩ := ho rfl
    obtain ⟨k1, k2⟩ := hg _ _ h3
    obtain ⟨y, n, k3, k4, _⟩ := k2 _ h1
    rw [k4 rfl] at k3
    exact .oG k3
  | p h1 =>
    simp only [C.mv] at hm
    split at hm
    · rename_i j hj; cases hm; exact .p ((hg _ _ hj).1 _ h1)
    · cases hm
  | e _ _ _ _ _ => cases hm
  | eG _ => cases hm
  | q h => simp only [C.mv, Option.some.injEq] at hm; subst hm; exact .q h
  | @f fn caps vs hl hr =>
    cases caps with
    | nil =>
      simp only [C.mv, Option.some.injEq] at hm; subst hm
      exact .f hl (fun j h => by simp at h)
    | cons _ _ => cases hm
  | m h1 =>
    simp only [C.mv] at hm
    split at hm
    · rename_i j hj; cases hm; exact .m ((hg _ _ hj).1 _ h1)
    · cases hm
  | zs => simp only [C.mv, Option.some.injEq] at hm; subst hm; exact .zs
  | zP => simp only [C.mv, Option.some.injEq] at hm; subst hm; exact .zP
  | zM => simp only [C.mv, Option.some.injEq] at hm; subst hm; exact .zM
  | zF => simp only [C.mv, Option.some.injEq] at hm; subst hm; exact .zF
theorem mvs_some : ∀ {cs ds : List C}, mvs g cs = some ds → ds.length = cs.length ∧ ∀ (j : Nat) (h1 : j < cs.length) (h2 : j < ds.length), cs[j].mv g = some ds[j]
  | [], ds, h => by cases h; exact ⟨rfl, fun j h => by simp at h⟩
  | c :: cs, ds, h => by
    simp only [mvs] at h
    split at h
    · rename_i x ys h1 h2
      cases h
      obtain ⟨i1, i2⟩ := mvs_some h2
      refine ⟨by simp [i1], fun j k1 k2 => ?_⟩
      cases j with
      | zero => exact h1
      | succ j => exact i2 j (by simpa using k1) (by simpa using k2)
    · cases h
theorem crs_mv (hg : MvOK g ρ H ρ' H') {cs ds : List C} {vs : List V} (hc : CRs ρ H cs vs) (hm : mvs g cs = some ds) : CRs ρ' H' ds vs := by
  obtain ⟨h1, h2⟩ := mvs_some hm
  exact ⟨by rw [h1]; exact hc.1, fun j k1 k2 => cr_mv hg (hc.2 j (by omega) k2) (h2 j (by omega) k1)⟩
theorem mvA_some : ∀ {cs ds : List AT}, AT.mv.mvA g cs = some ds → ds.length = cs.length ∧ ∀ (j : Nat) (h1 : j < cs.length) (h2 : j < ds.length), cs[j].mv g = some ds[j]
  | [], ds, h => by
    rw [AT.mv.mvA.eq_def] at h
    cases h; exact ⟨rfl, fun j h => by simp at h⟩
  | c :: cs, ds, h => by
    rw [AT.mv.mvA.eq_def] at h
    simp only at h
    split at h
    · rename_i x ys h1 h2
      cases h
      obtain ⟨i1, i2⟩ := mvA_some h2
      refine ⟨by simp [i1], fun j k1 k2 => ?_⟩
      cases j with
      | zero => exact h1
      | succ j => exact i2 j (by simpa using k1) (by simpa using k2)
    · cases h
theorem atr_mv (hg : MvOK g ρ H ρ' H') {v u : AT} {av : AV} (hc : ATR ρ H v av) (hm : v.mv g = some u) : ATR ρ' H' u av := by
  induction hc generalizing u with
  | one h =>
    rw [AT.mv.eq_def] at hm
    simp only at hm
    split at hm
    · rename_i d hd; cases hm; exact .one (cr_mv hg h hd)
    · cases hm
  | agg h =>
    rw [AT.mv.eq_def] at hm
    simp only at hm
    split at hm
    · rename_i d hd; cases hm; exact .agg (crs_mv hg h hd)
    · cases hm
  | tup hl h ih =>
    rw [AT.mv.eq_def] at hm
    simp only at hm
    split at hm
    · rename_i ys hy
      cases hm
      obtain ⟨h1, h2⟩ := mvA_some hy
      exact .tup (by rw [h1]; exact hl) (fun j k1 k2 => ih j (by omega) k2 (h2 j (by omega) k1))
    · cases hm

theorem ob_anew {x : Ob} {y : Option Abs.Ob} (h : obR ρ H x y) : obR ρ H x.anew y := by cases x <;> exact h
theorem ob_mv (hg : MvOK g ρ H ρ' H') {x x' : Ob} {y : Option Abs.Ob} (h : obR ρ H x y) (hm : x.mv g = some x') : obR ρ' H' x' y := by
  cases x with
  | box cs =>
    obtain ⟨vs, h1, h2⟩ := h
    simp only [Ob.mv] at hm
    split at hm
    · rename_i ds hd; cases hm; exact ⟨vs, h1, crs_mv hg h2 hd⟩
    · cases hm
  | row T n xs => cases hm; exact h
  | map T kvs => cases hm; exact h
  | gone => cases hm; trivial
theorem mv_shape {x x' : Ob} (hm : x.mv g = some x') : (x = .gone → x' = .gone) ∧ (∀ T m xs, x = .row T m xs → x' = .row T m xs) ∧ evo0 x x' := by
  cases x with
  | box cs =>
    simp only [Ob.mv] at hm
    split at hm
    · cases hm; exact ⟨fun e => (by cases e), fun _ _ _ e => (by cases e), .inr (.inr (.inl ⟨_, _, rfl, rfl⟩))⟩
    · cases hm
  | row T n xs => cases hm; exact ⟨fun e => (by cases e), fun _ _ _ e => (by cases e; rfl), evo0.refl _⟩
  | map T kvs => cases hm; exact ⟨fun e => (by cases e), fun _ _ _ e => (by cases e), evo0.refl _⟩
  | gone => cases hm; exact ⟨fun _ => rfl, fun _ _ _ e => (by cases e), evo0.refl _⟩
theorem anew_shape (x : Ob) : (x = .gone → x.anew = .gone) ∧ (∀ T m xs, x = .row T m xs → x.anew = .row T 0 xs) ∧ evo0 x x.anew := by
  cases x with
  | row T n xs => exact ⟨fun e => (by cases e), fun _ _ _ e => (by cases e; rfl), .inr (.inl ⟨T, n, xs, 0, xs, rfl, rfl, rfl⟩)⟩
  | box cs => exact ⟨fun e => (by cases e), fun _ _ _ e => (by cases e), evo0.refl _⟩
  | map T kvs => exact ⟨fun e => (by cases e), fun _ _ _ e => (by cases e), evo0.refl _⟩
  | gone => exact ⟨fun _ => rfl, fun _ _ _ e => (by cases e), evo0.refl _⟩
theorem evo0.trans {x y z : Ob} (h : evo0 x y) (k : evo0 y z) : evo0 x z := by
  rcases k with k | ⟨T, n, xs, n', xs', rfl, rfl, k1⟩ | ⟨cs, ds, rfl, rfl⟩ | ⟨T, a, b, rfl, rfl⟩
  · exact .inl k
  · rcases h with h | ⟨T2, m, ys, m', ys', rfl, h2, h3⟩ | ⟨_, _, _, h⟩ | ⟨_, _, _, _, h⟩
    · cases h
    · cases h2; exact .inr (.inl ⟨T, m, ys, n', xs', rfl, rfl, by omega⟩)
    · cases h
    · cases h
  · rcases h with h | ⟨_, _, _, _, _, _, h2, _⟩ | ⟨a, _, rfl, h⟩ | ⟨_, _, _, _, h⟩
    · cases h
    · cases h2
    · exact .inr (.inr (.inl ⟨a, ds, rfl, rfl⟩))
    · cases h
  · rcases h with h | ⟨_, _, _, _, _, _, h2, _⟩ | ⟨a, _, rfl, h⟩ | ⟨_, c, _, rfl, h⟩
    · cases h
    · cases h2
    · cases h
    · cases h; exact .inr (.inr (.inr ⟨T, c, b, rfl, rfl⟩))

/-- Some objects, as a heap of their own. -/
theorem pick_ok {keep : List Nat} {Hc : List Ob} (hp : HpR ρ H h) (hn : nodupB keep = true) (hk : pickH keep H = some Hc) : HpR (pickρ ρ keep) Hc h ∧ MvOK (pos keep) ρ H (pickρ ρ keep) Hc ∧ (∀ (j id : Nat), keep[j]? = some id → (pickρ ρ keep)[j]? = ρ[id]?) := by
  obtain ⟨k1, k2⟩ := pickH_some hk
  have hρ : ∀ (j id : Nat), keep[j]? = some id → (pickρ ρ keep)[j]? = ρ[id]? := fun j id hj => by
    obtain ⟨x, y, c1, _⟩ := k2 j id hj
    have hlt : id < ρ.length := by rw [hp.len]; exact (List.getElem?_eq_some_iff.1 c1).1
    simp [pickρ, hj, List.getElem?_eq_getElem hlt]
  have hinv : ∀ (j : Nat) (x : Option Nat), (pickρ ρ keep)[j]? = some x → ∃ id, keep[j]? = some id ∧ ρ[id]? = some x := fun j x hx => by
    have hlt := (List.getElem?_eq_some_iff.1 hx).1
    simp [pickρ] at hlt
    have e := List.getElem?_eq_getElem hlt
    exact ⟨_, e, by rw [← hρ j _ e]; exact hx⟩
  have hmv : MvOK (pos keep) ρ H (pickρ ρ keep) Hc := fun id j hj => by
    have hj := pos_some hj
    refine ⟨fun x hx => by rw [hρ j id hj]; exact hx, fun x hx => ?_⟩
    obtain ⟨x', y, c1, c2, c3⟩ := k2 j id hj
    rw [hx] at c1
    cases c1
    obtain ⟨d1, d2, _⟩ := mv_shape c2
    exact ⟨_, 0, c3, fun e => (anew_shape y).1 (d1 e), fun T m xs e => (anew_shape y).2.1 T m xs (d2 T m xs e)⟩
  refine ⟨HpR.mk' (by simp [pickρ, k1]) (fun j z hz => ?_) (fun i j a h1 h2 => ?_) (fun i a h1 => ?_), hmv, hρ⟩
  · have hlt := (List.getElem?_eq_some_iff.1 hz).1
    rw [k1] at hlt
    have e := List.getElem?_eq_getElem hlt
    obtain ⟨x, y, c1, c2, c3⟩ := k2 j _ e
    rw [hz] at c3
    cases c3
    rcases hp.ob c1 with ⟨a, w, m1, m2, m3⟩ | ⟨m1, T, n, rfl, m3⟩ | rfl
    · exact .inl ⟨a, w, by rw [hρ j _ e]; exact m1, m2, ob_anew (ob_mv hmv m3 c2)⟩
    · cases c2
      exact .inr (.inl ⟨by rw [hρ j _ e]; exact m1, T, 0, rfl, m3⟩)
    · cases c2
      exact .inr (.inr rfl)
  · obtain ⟨i1, e1, f1⟩ := hinv i _ h1
    obtain ⟨j1, e2, f2⟩ := hinv j _ h2
    have := hp.inj i1 j1 a f1 f2
    subst this
    exact nodup_inj hn e1 e2
  · obtain ⟨i1, e1, f1⟩ := hinv i _ h1
    exact hp.lt _ _ f1
end
end Go.Proofs.Ytagnfckihdlhpaa.Den

/-
  The state, cut down to what is still looked at: den's words for it are right.
-/
namespace Go.Proofs.Ytagnfckihdlhpaa.Den
open Go.RowKit
open Abs (V AV Env Heap ar)

def EncM (ρ : Rho) (H : List Ob) (D : List (Nat × AT)) (L : Env) : Prop := ∀ p ∈ D, ∃ av, L.lookup p.1 = some av ∧ ATR ρ H p.2 av
theorem lookup_mem {α : Type} {D : List (Nat × α)} {t : Nat} {v : α} (h : D.lookup t = some v) : (t, v) ∈ D := by
  induction D with
  | nil => simp at h
  | cons p D ih =>
    obtain ⟨k, z⟩ := p
    rw [List.lookup_cons] at h
    by_cases e : t = k
    · subst e; simp at h; subst h; simp
    · have : (t == k) = false := by simpa using e
      rw [this] at h
      exact List.mem_cons_of_mem _ (ih h)
section
variable {P : Program} {E : Abs.Cx} {F : In} {ρ ρ' : Rho} {H H' : List Ob} {D : List (Nat × AT)} {L : Env} {h : Heap}
theorem EncM.enc (h : EncM ρ H D L) : EncL ρ H D L := fun t v hv => h (t, v) (lookup_mem hv)
theorem EncM.mono (e : Ev ρ H ρ' H') (h : EncM ρ H D L) : EncM ρ' H' D L := fun p hp => let ⟨av, h1, h2⟩ := h p hp; ⟨av, h1, h2.mono e⟩
theorem slots_enc (hs : EncL ρ H D L) : ∀ ts, EncM ρ H (slots D ts) L
  | [] => fun p hp => by simp [slots] at hp
  | t :: ts => fun p hp => by
    simp only [slots] at hp
    split at hp
    · rename_i v hv
      rcases List.mem_cons.1 hp with rfl | hp
      · exact hs t v hv
      · exact slots_enc hs ts p hp
    · exact slots_enc hs ts p hp

structure Mat (F : In) (h : Heap) (ρ : Rho) (H : List Ob) (ρ' : Rho) (H' : List Ob) : Prop where
  heap : HpR ρ' H' h
  ev : Ev ρ H ρ' H'
  fr : Fr F ρ' H' h
theorem Mat.refl (hp : HpR ρ H h) (hf : Fr F ρ H h) : Mat F h ρ H ρ H := ⟨hp, Ev.refl _ _, hf⟩
theorem Mat.trans {ρ'' : Rho} {H'' : List Ob} (a : Mat F h ρ H ρ' H') (b : Mat F h ρ' H' ρ'' H'') : Mat F h ρ H ρ'' H'' := ⟨b.heap, a.ev.trans b.ev, b.fr⟩
theorem mat_nil {T : Ty} (hT : 0 < szT T) (hp : HpR ρ H h) (hf : Fr F ρ H h) : Mat F h ρ H (ρ ++ [none]) (H ++ [.row T 0 []]) ∧ CR (ρ ++ [none]) (H ++ [.row T 0 []]) (.o H.length) (.lit (.slice none 0 0)) :=
  ⟨⟨hp.nilRow hT, Ev.push _ _, hf.nilRow _⟩, by obtain ⟨m1, _⟩ := nil_row hT hp; obtain ⟨u, e, k⟩ := m1.one'; cases e; exact k⟩
theorem CR.nil' {T : Ty} {v : V} (hc : CR ρ H (.nil T) v) : v = .lit (.slice none 0 0) ∧ 0 < szT T := by
  cases hc with
  | fl h => cases h
  | nil hp => exact ⟨rfl, hp⟩
theorem CRs.head {c : C} {cs : List C} {vs : List V} (h : CRs ρ H (c :: cs) vs) : ∃ v us, vs = v :: us ∧ CR ρ H c v ∧ CRs ρ H cs us := by
  cases vs with
  | nil => have := h.1; simp at this
  | cons v us => exact ⟨v, us, rfl, h.2 0 (by simp) (by simp), by have := h.1; simpa using this, fun j h1 h2 => h.2 (j + 1) (by simpa using h1) (by simpa using h2)⟩
theorem matC_ok : ∀ {cs : List C} {H : List Ob} {ρ : Rho} {vs : List V}, HpR ρ H h → Fr F ρ H h → CRs ρ H cs vs → ∃ ρ', Mat F h ρ H ρ' (matC cs H).2 ∧ CRs ρ' (matC cs H).2 (matC cs H).1 vs
  | [], H, ρ, vs, hp, hf, hc => ⟨ρ, Mat.refl hp hf, hc⟩
  | c :: cs, H, ρ, vs, hp, hf, hc => by
    obtain ⟨v, us, rfl, h1, h2⟩ := hc.head
    by_cases e : ∃ T, c = .nil T
    · obtain ⟨T, rfl⟩ := e
      obtain ⟨rfl, hT⟩ := h1.nil'
      obtain ⟨m1, m2⟩ := mat_nil hT hp hf
      obtain ⟨ρ', k1, k2⟩ := matC_ok m1.heap m1.fr (h2.mono m1.ev)
      exact ⟨ρ', m1.trans k1, .cons (m2.mono k1.ev) k2⟩
    · obtain ⟨ρ', k1, k2⟩ := matC_ok hp hf h2
      have : matC (c :: cs) H = (c :: (matC cs H).1, (matC cs H).2) := by
        simp only [matC]
        split
        · exact absurd ⟨_, rfl⟩ e
        · rfl
      rw [this]
      exact ⟨ρ', k1, .cons (h1.mono k1.ev) k2⟩
theorem matA_ok {v : AT} {av : AV} (hp : HpR ρ H h) (hf : Fr F ρ H h) (hc : ATR ρ H v av) : ∃ ρ', Mat F h ρ H ρ' (matA v H).2 ∧ ATR ρ' (matA v H).2 (matA v H).1 av := by
  cases hc with
  | @one c u h1 =>
    by_cases e : ∃ T, c = .nil T
    · obtain ⟨T, rfl⟩ := e
      obtain ⟨rfl, hT⟩ := h1.nil'
      obtain ⟨m1, m2⟩ := mat_nil hT hp hf
      exact ⟨_, m1, .one m2⟩
    · have : matA (.one c) H = (.one c, H) := by
        simp only [matA]
        split
        · exact absurd ⟨_, rfl⟩ e
        · rfl
      rw [this]
      exact ⟨ρ, Mat.refl hp hf, .one h1⟩
  | agg h1 =>
    obtain ⟨ρ', k1, k2⟩ := matC_ok hp hf h1
    exact ⟨ρ', k1, .agg k2⟩
  | tup hl h1 => exact ⟨ρ, Mat.refl hp hf, .tup hl h1⟩
theorem matL_ok : ∀ {D : List (Nat × AT)} {H : List Ob} {ρ : Rho}, HpR ρ H h → Fr F ρ H h → EncM ρ H D L → ∃ ρ', Mat F h ρ H ρ' (matL D H).2 ∧ EncM ρ' (matL D H).2 (matL D H).1 L
  | [], H, ρ, hp, hf, hs => ⟨ρ, Mat.refl hp hf, hs⟩
  | (t, v) :: D, H, ρ, hp, hf, hs => by
    obtain ⟨av, h1, h2⟩ := hs (t, v) (by simp)
    obtain ⟨ρ1, k1, k2⟩ := matA_ok hp hf h2
    obtain ⟨ρ2, m1, m2⟩ := matL_ok k1.heap k1.fr (EncM.mono k1.ev (D := D) (L := L) (fun p hp => hs p (by simp [hp])))
    refine ⟨ρ2, k1.trans m1, fun p hp => ?_⟩
    simp only [matL] at hp
    rcases List.mem_cons.1 hp with rfl | hp
    · exact ⟨av, h1, k2.mono m1.ev⟩
    · exact m2 p hp
theorem matC_pre : ∀ (cs : List C) (H : List Ob), ∃ t, (matC cs H).2 = H ++ t
  | [], H => ⟨[], by simp [matC]⟩
  | c :: cs, H => by
    simp only [matC]
    split
    · rename_i T
      obtain ⟨t, e⟩ := matC_pre cs (H ++ [.row T 0 []])
      exact ⟨[.row T 0 []] ++ t, by simp [e]⟩
    · exact matC_pre cs H
theorem matH_ok : ∀ {n : Nat} {H : List Ob} {ρ : Rho}, HpR ρ H h → Fr F ρ H h → ∃ ρ', Mat F h ρ H ρ' (matH n H)
  | 0, H, ρ, hp, hf => ⟨ρ, Mat.refl hp hf⟩
  | n + 1, H, ρ, hp, hf => by
    simp only [matH]
    split
    · rename_i cs hb
      obtain ⟨a, vs, h1, h2, h3⟩ := hp.box n cs hb
      obtain ⟨ρ1, k1, k2⟩ := matC_ok hp hf h3
      have b1 : (matC cs H).2[n]? = some (.box cs) := by
        obtain ⟨t, e⟩ := matC_pre cs H
        rw [e, List.getElem?_append_left (List.getElem?_eq_some_iff.1 hb).1]; exact hb
      have he : evo (.box cs) (.box (matC cs H).1) := .inr (.inr (.inl ⟨_, _, rfl, rfl⟩))
      have hev : Ev ρ1 (matC cs H).2 ρ1 ((matC cs H).2.set n (.box (matC cs H).1)) := Ev.set b1 he
      have hs := k1.heap.set (y := some (.row vs.length [vs])) (k1.ev.rho _ _ h1) b1 he ⟨vs, rfl, k2.mono hev⟩
      have hsame : h.set a (some (.row vs.length [vs])) = h := by
        obtain ⟨hlt, e⟩ := List.getElem?_eq_some_iff.1 h2
        rw [← e, List.set_getElem_self]
      rw [hsame] at hs
      have hf2 := k1.fr.set (y := some (.row vs.length [vs])) (k1.ev.rho _ _ h1) b1 he
      rw [hsame] at hf2
      obtain ⟨ρ2, m1⟩ := matH_ok (n := n) hs hf2
      exact ⟨ρ2, k1.trans (Mat.trans ⟨hs, hev, hf2⟩ m1)⟩
    · exact matH_ok hp hf
theorem mvL_some {g : Nat → Option Nat} (hg : MvOK g ρ H ρ' H') : ∀ {D D' : List (Nat × AT)}, mvL g D = some D' → EncM ρ H D L → EncM ρ' H' D' L
  | [], D', h, _ => by cases h; intro p hp; simp at hp
  | (t, v) :: D, D', h, hs => by
    simp only [mvL] at h
    split at h
    · rename_i u D2 h1 h2
      cases h
      intro p hp
      rcases List.mem_cons.1 hp with rfl | hp
      · obtain ⟨av, k1, k2⟩ := hs (t, v) (by simp)
        exact ⟨av, k1, atr_mv hg k2 h1⟩
      · exact mvL_some hg h2 (fun q hq => hs q (by simp [hq])) p hp
    · cases h
theorem eqL_eq : ∀ {a b : List Nat}, eqL a b = true → a = b
  | [], [], _ => rfl
  | [], _ :: _, h => by cases h
  | _ :: _, [], h => by cases h
  | x :: a, y :: b, h => by
    simp only [eqL, Bool.and_eq_true] at h
    rw [Nat.eq_of_beq_eq_true h.1, eqL_eq h.2]
/-- The first objects are those that were handed in. -/
def In.ok (F : In) (r : Nat) : Prop := F.ρ.length = r ∧ F.H.length = r
theorem Fr.pick {keep : List Nat} {Hc : List Ob} {r : Nat} (hf : Fr F ρ H h) (hp : HpR ρ H h) (hi : F.ok r) (hn : nodupB keep = true) (hr : keep.take r = List.range r) (hk : pickH keep H = some Hc) : Fr F (pickρ ρ keep) Hc h := by
  obtain ⟨_, _, hρ⟩ := pick_ok hp hn hk
  obtain ⟨k1, k2⟩ := pickH_some hk
  have hrk : ∀ id, id < r → keep[id]? = some id := fun id hid => by
    have : (keep.take r)[id]? = (List.range r)[id]? := by rw [hr]
    rw [List.getElem?_take_of_lt hid] at this
    rw [this]; simp [hid]
  refine ⟨hf.len, fun id a h1 h2 => ?_, hf.same, fun id x h1 => ?_, fun id x h1 => ?_⟩
  · have hlt := (List.getElem?_eq_some_iff.1 h1).1
    simp [pickρ] at hlt
    have e := List.getElem?_eq_getElem hlt
    rw [hρ id _ e] at h1
    have h3 := hf.old _ a h1 h2
    have h4 : keep[id] < r := by rw [← hi.1]; exact (List.getElem?_eq_some_iff.1 h3).1
    have := nodup_inj hn e (hrk _ h4)
    rw [this]; exact h3
  · have hid : id < r := by rw [← hi.1]; exact (List.getElem?_eq_some_iff.1 h1).1
    rw [hρ id id (hrk id hid)]
    exact hf.rho id x h1
  · have hid : id < r := by rw [← hi.2]; exact (List.getElem?_eq_some_iff.1 h1).1
    obtain ⟨y, m1, m2⟩ := hf.ob id x h1
    obtain ⟨x', y', c1, c2, c3⟩ := k2 id id (hrk id hid)
    rw [m1] at c1
    cases c1
    exact ⟨_, c3, (m2.trans (mv_shape c2).2.2).trans (anew_shape y').2.2⟩
theorem restrict_ok {R : Type} {r : Nat} {lv : List Nat} {st : St} {K : St → Option R} {x : R} (hi : F.ok r) (hs : SR F ρ st L h) (hk : restrict r lv st K = some x) : ∃ ρ' st', K st' = some x ∧ SR F ρ' st' L h := by
  unfold restrict at hk
  obtain ⟨ρ1, a1⟩ := matH_ok (n := st.H.length) hs.heap hs.fr
  obtain ⟨ρ2, b1, b2⟩ := matL_ok a1.heap a1.fr (EncM.mono a1.ev (slots_enc hs.slots lv))
  simp only at hk
  split at hk
  · rename_i H' L' h1 h2 h3
    simp only [Bool.and_eq_true] at h1
    obtain ⟨c1, c2, _⟩ := pick_ok b1.heap h1.1 h2
    exact ⟨_, _, hk, (mvL_some c2 h3 b2).enc, c1, b1.fr.pick b1.heap hi h1.1 (eqL_eq h1.2) h2⟩
  · cases hk
end
end Go.Proofs.Ytagnfckihdlhpaa.Den

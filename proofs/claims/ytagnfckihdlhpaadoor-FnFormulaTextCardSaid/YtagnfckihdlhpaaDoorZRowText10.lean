/-
  Texts that the claim rests on, merged: DenX, DenO, DenS, DenM, DenM2, DenK, DenK2, DenC, DenC2, DenG, Tb, ReadD.
-/
import Derived.Test.YtagnfckihdlhpaaDoorProg
import Derived.Test.YtagnfckihdlhpaaDoorZRowText1
import Derived.Test.YtagnfckihdlhpaaDoorZRowText9

/-
  den is right: strings, numbers of other kinds, maps, closures, slices without room.
-/
namespace Go.Proofs.YtagnfckihdlhpaaDoor.Den
open Go.RowKit
open Abs (V AV Env Heap ar)

/-- What a computation can give. -/
def Pl.has {X : Type} (p : Pl X) (x : X) : Prop := match p with
  | .no => False
  | .ret y => y = x
  | .opt m f => ∃ a, m = some a ∧ f a = some x
theorem Pl.run_has {X R : Type} {p : Pl X} {K : X → Option R} {r : R} (h : p.run K = some r) : ∃ x, p.has x ∧ K x = some r := by
  cases p with
  | no => cases h
  | ret x => exact ⟨x, rfl, h⟩
  | opt m f =>
    cases m with
    | none => cases h
    | some a =>
      simp only [Pl.run, Option.bind_some] at h
      split at h
      · rename_i x hx; exact ⟨x, ⟨a, rfl, hx⟩, h⟩
      · cases h
theorem Pl.has_run {X R : Type} {p : Pl X} {x : X} (h : p.has x) (K : X → Option R) : p.run K = K x := by
  cases p with
  | no => cases h
  | ret y => cases h; rfl
  | opt m f => obtain ⟨a, rfl, h⟩ := h; simp only [Pl.run, Option.bind_some, h]

theorem bind_some {α β : Type} {m : Option α} {f : α → Option β} {b : β} (h : m.bind f = some b) : ∃ a, m = some a ∧ f a = some b := by
  cases m with
  | none => cases h
  | some a => exact ⟨a, rfl, h⟩

section
variable {P : Program} {E : Abs.Cx} {F : In} {ρ : Rho} {H : List Ob} {D : List (Nat × AT)} {L : Env} {h : Heap} {d : Nat} {ty : TypeId} {pos : String} {af : Array Edge} {gd : Option (Nat × Bool)} {tb : Nat → Option TI}

theorem sIx_some {s : ByteArray} {i b : Int} (h : sIx s i = some b) : 0 ≤ i ∧ ∃ c, s[i.toNat]? = some c ∧ b = c.toNat := by
  unfold sIx at h
  cases h0 : decide (0 ≤ i) with
  | false => rw [h0] at h; cases h
  | true =>
    rw [h0] at h
    simp only [cond_true] at h
    split at h
    · rename_i c hc; cases h; exact ⟨of_decide_eq_true h0, c, hc, rfl⟩
    · cases h
theorem sSub_some {s q : ByteArray} {a b : Int} (h : sSub s a b = some q) : 0 ≤ a ∧ a ≤ b ∧ b ≤ s.size ∧ q = s.extract a.toNat b.toNat := by
  unfold sSub at h
  cases h0 : (decide (0 ≤ a) && decide (a ≤ b) && decide (b ≤ (s.size : Int))) with
  | false => rw [h0] at h; cases h
  | true =>
    rw [h0] at h
    simp only [Bool.and_eq_true, decide_eq_true_eq] at h0
    cases h
    exact ⟨h0.1.1, h0.1.2, h0.2, rfl⟩
theorem clipOK_some {n a b : Int} {u : Unit} (h : clipOK n a b = some u) : a = n ∧ b = n := by
  unfold clipOK at h
  cases h0 : (decide (a = n) && decide (b = n)) with
  | false => rw [h0] at h; cases h
  | true => simpa using h0
theorem ok_indexS (htb : TBOK P tb) (hs : EncL ρ H D L) (hn : d < E.n) {t : Nat} {ti : TI} {x y : Operand} {s : ByteArray} {i b : Int} (ht : tb t = some ti) (hst : ti.str = true) (hx : ev D x = some (.one (.s s))) (hy : ev D y = some (.one (.i i))) (hb : sIx s i = some b) :
    ValOK P ⟨some d, .index t x y, ty, pos, af, gd⟩ E ρ H L h (.one (.k .u8 b)) := by
  obtain ⟨ti', F⟩ := htb.get ht
  obtain ⟨av, h1, h2⟩ := ev_ok hs hx
  obtain ⟨u, rfl, h3⟩ := h2.one'
  cases h3.str
  obtain ⟨aw, k1, k2⟩ := ev_ok hs hy
  obtain ⟨u, rfl, k3⟩ := k2.one'
  cases k3.int
  obtain ⟨g1, c, g2, rfl⟩ := sIx_some hb
  exact ⟨_, .one (.fl .k), Abs.ar_indexStr F.tb h1 k1 F.look (F.str hst) g1 g2 hn ⟨rfl, rfl⟩⟩
theorem ok_sliceS (htb : TBOK P tb) (hs : EncL ρ H D L) (hn : d < E.n) {t : Nat} {ti : TI} {x : Operand} {lo hi : Option Operand} {s q : ByteArray} {a b : Int} (ht : tb t = some ti) (hst : ti.str = true) (hx : ev D x = some (.one (.s s)))
    (hlo : (match lo with | some y => ev D y | none => some (.one (.i 0))) = some (.one (.i a))) (hhi : (match hi with | some y => ev D y | none => some (.one (.i s.size))) = some (.one (.i b))) (hq : sSub s a b = some q) :
    ValOK P ⟨some d, .slice t x lo hi none, ty, pos, af, gd⟩ E ρ H L h (.one (.s q)) := by
  obtain ⟨ti', F⟩ := htb.get ht
  obtain ⟨av, h1, h2⟩ := ev_ok hs hx
  obtain ⟨u, rfl, h3⟩ := h2.one'
  cases h3.str
  obtain ⟨s1, s2, s3, rfl⟩ := sSub_some hq
  obtain ⟨a', rfl⟩ : ∃ a' : Nat, a = a' := ⟨a.toNat, by omega⟩
  obtain ⟨b', rfl⟩ : ∃ b' : Nat, b = b' := ⟨b.toNat, by omega⟩
  refine ⟨_, .one (.fl .s), Abs.ar_sliceStr (lo := a') (hi := b') (kl := .i64) (kh := .i64) F.tb h1 F.look (F.str hst) ?_ ?_ (by omega) (by omega) hn ⟨rfl, rfl⟩⟩
  · cases lo with
    | none => simp only [Option.some.injEq, AT.one.injEq, C.i.injEq] at hlo; exact .inl ⟨rfl, by omega⟩
    | some y =>
      obtain ⟨aw, k1, k2⟩ := ev_ok hs hlo
      obtain ⟨u, rfl, k3⟩ := k2.one'
      cases k3.int
      exact .inr ⟨y, rfl, k1⟩
  · cases hi with
    | none => simp only [Option.some.injEq, AT.one.injEq, C.i.injEq] at hhi; exact .inl ⟨rfl, by omega⟩
    | some y =>
      obtain ⟨aw, k1, k2⟩ := ev_ok hs hhi
      obtain ⟨u, rfl, k3⟩ := k2.one'
      cases k3.int
      exact .inr ⟨y, rfl, k1⟩
theorem ok_clip (htb : TBOK P tb) (hs : EncL ρ H D L) (hn : d < E.n) {t : Nat} {ti : TI} {x hi mx : Operand} {T T' : Ty} {xs : List (I T)} {a b : Int} {u0 : Unit} (ht : tb t = some ti) (he : ti.elem = some T') (hsz : szT T' = szT T) (hx : ev D x = some (.one (.l T xs))) (hh : ev D hi = some (.one (.i a))) (hm : ev D mx = some (.one (.i b))) (hc : clipOK xs.length a b = some u0) :
    ValOK P ⟨some d, .slice t x none (some hi) (some mx), ty, pos, af, gd⟩ E ρ H L h (.one (.lc T xs)) := by
  obtain ⟨i', F⟩ := htb.get ht
  obtain ⟨el, z, _, g1, _, g2, g3, _⟩ := F.elem T' he
  obtain ⟨av, h1, h2⟩ := ev_ok hs hx
  obtain ⟨u, rfl, h3⟩ := h2.one'
  obtain ⟨es, rfl, h4⟩ := h3.list
  obtain ⟨aw, k1, k2⟩ := ev_ok hs hh
  obtain ⟨u, rfl, k3⟩ := k2.one'
  cases k3.int
  obtain ⟨aw, m1, m2⟩ := ev_ok hs hm
  obtain ⟨u, rfl, m3⟩ := m2.one'
  cases m3.int
  obtain ⟨rfl, rfl⟩ := clipOK_some hc
  have hl : es.length = xs.length := by cases h4 with | l _ hl _ _ => exact hl
  rw [← hl] at k1 m1
  exact ⟨_, .one (.lc h4), Abs.ar_clip F.tb h1 g1 (g2.trans hsz) (hsz ▸ g3) k1 m1 hn ⟨rfl, rfl⟩⟩
theorem ok_clipNil (htb : TBOK P tb) (hs : EncL ρ H D L) (hn : d < E.n) {t : Nat} {ti : TI} {x hi mx : Operand} {T T' : Ty} {a b : Int} {u0 : Unit} (ht : tb t = some ti) (he : ti.elem = some T') (hx : ev D x = some (.one (.nil T))) (hh : ev D hi = some (.one (.i a))) (hm : ev D mx = some (.one (.i b))) (hc : clipOK 0 a b = some u0) :
    ValOK P ⟨some d, .slice t x none (some hi) (some mx), ty, pos, af, gd⟩ E ρ H L h (.one (.nil T)) := by
  obtain ⟨i', F⟩ := htb.get ht
  obtain ⟨el, z, _, g1, _, g2, g3, _⟩ := F.elem T' he
  obtain ⟨av, h1, h2⟩ := ev_ok hs hx
  obtain ⟨u, rfl, h3⟩ := h2.one'
  obtain ⟨rfl, hp⟩ : u = .lit (.slice none 0 0) ∧ 0 < szT T := by cases h3 with | fl h => cases h | nil hp => exact ⟨rfl, hp⟩
  obtain ⟨aw, k1, k2⟩ := ev_ok hs hh
  obtain ⟨u, rfl, k3⟩ := k2.one'
  cases k3.int
  obtain ⟨aw, m1, m2⟩ := ev_ok hs hm
  obtain ⟨u, rfl, m3⟩ := m2.one'
  cases m3.int
  obtain ⟨rfl, rfl⟩ := clipOK_some hc
  exact ⟨_, .one (.nil hp), Abs.ar_clipNil F.tb h1 g1 (by omega) k1 m1 hn ⟨rfl, rfl⟩⟩
theorem intC_ok (k : IntKind) (a : Int) : CR ρ H (intC k a) (.lit (.int k (k.wrap a))) := by
  cases k <;> first | exact .fl .i | exact .fl .k
theorem ok_conv (htb : TBOK P tb) (hs : EncL ρ H D L) (hn : d < E.n) {t1 t : Nat} {ti t1i : TI} {x : Operand} {c : C} {k0 k : IntKind} {a : Int} (ht1 : tb t1 = some t1i) (ht : tb t = some ti) (hi : ti.kd = some k) (hx : ev D x = some (.one c)) (hc : ∀ v, CR ρ H c v → v = .lit (.int k0 a)) :
    ValOK P ⟨some d, .convert t1 t x, ty, pos, af, gd⟩ E ρ H L h (.one (intC k a)) := by
  obtain ⟨i1, F1⟩ := htb.get ht1
  obtain ⟨i, F⟩ := htb.get ht
  obtain ⟨av, h1, h2⟩ := ev_ok hs hx
  obtain ⟨v, rfl, h3⟩ := h2.one'
  cases hc _ h3
  obtain ⟨T, g1, g2, g3⟩ := two_tb F1.ty F.ty
  exact ⟨_, .one (intC_ok k a), Abs.ar_conv g1 h1 g2 g3 (F.kd k hi) hn ⟨rfl, rfl⟩⟩
theorem FRl.bytes {xs : List (I .u)} {es : List (List V)} (h : FRl .u xs es) : es = List.map (α := Int) (fun n => [V.lit (.int .u8 n)]) xs := by
  induction h with
  | nil => rfl
  | @cons x e xs es h k ih =>
    rw [ih]
    show e :: _ = [V.lit (.int .u8 x)] :: _
    congr 1
    obtain ⟨h1, h2⟩ := h
    match e, h1, h2 with
    | [v], _, h2 =>
      have := h2 0 (by simp [explode]) (by simp)
      simp only [explode, List.getElem_cons_zero] at this
      cases this
      rfl
theorem ok_bytesS (htb : TBOK P tb) (hs : EncL ρ H D L) (hn : d < E.n) {t1 t : Nat} {ti t1i : TI} {x : Operand} {xs : List Int} (ht1 : tb t1 = some t1i) (ht : tb t = some ti) (he : t1i.elem = some .u) (hst : ti.str = true) (hx : ev D x = some (.one (.l .u xs))) :
    ValOK P ⟨some d, .convert t1 t x, ty, pos, af, gd⟩ E ρ H L h (.one (.s (sOf xs))) := by
  obtain ⟨i1, F1⟩ := htb.get ht1
  obtain ⟨i, F⟩ := htb.get ht
  obtain ⟨el, z, g0, g1, _, g2, g3, _⟩ := F1.elem .u he
  obtain ⟨av, h1, h2⟩ := ev_ok hs hx
  obtain ⟨u, rfl, h3⟩ := h2.one'
  obtain ⟨es, rfl, h4⟩ := h3.list
  have h5 := h4.frl.bytes
  subst h5
  obtain ⟨T, b1, b2, b3⟩ := two_tb F1.ty F.ty
  have e1 : Abs.elOf T t1 = some el := by unfold Abs.elOf; rw [b2]; exact g0
  obtain ⟨e2, _⟩ := Abs.elOf_some b1 e1
  obtain ⟨e', e3, e4⟩ := F1.u8 he
  have e5 : e' = el.t := by rw [e2] at e3; cases e3; rfl
  subst e5
  exact ⟨_, .one (.fl .s), Abs.ar_bytesStr b1 h1 e1 e4 b3 (F.str hst) hn ⟨rfl, rfl⟩⟩

theorem castM_some {T T' : Ty} {xs : List (ByteArray × I T')} {ys : List (ByteArray × I T)} (h : castM xs = some ys) : ∃ e : T' = T, ys = e ▸ xs := by
  unfold castM at h
  split at h
  · rename_i e; cases h; exact ⟨e, rfl⟩
  · cases h
theorem asAT_ok {cs : List C} {vs : List V} (h : CRs ρ H cs vs) : ATR ρ H (asAT cs) (Abs.asAV vs) := by
  match cs, vs, h with
  | [], [], h => exact .agg h
  | [c], [v], h => exact .one (h.2 0 (by simp) (by simp))
  | _ :: _ :: _, _ :: _ :: _, h => exact .agg h
  | [], _ :: _, h => exact absurd h.1 (by simp)
  | [_], [], h => exact absurd h.1 (by simp)
  | [_], _ :: _ :: _, h => exact absurd h.1 (by simp)
  | _ :: _ :: _, [], h => exact absurd h.1 (by simp)
  | _ :: _ :: _, [_], h => exact absurd h.1 (by simp)
theorem mget_rel {T : Ty} (s : ByteArray) : ∀ {kvs : List (ByteArray × I T)} {ws : List (ByteArray × List V)}, kvs.length = ws.length → (∀ (j : Nat) (h1 : j < kvs.length) (h2 : j < ws.length), kvs[j].1 = ws[j].1 ∧ FRs (explode T kvs[j].2) ws[j].2) →
    (mget kvs s = none ∧ Abs.kget ws s = none) ∨ ∃ x vs, mget kvs s = some x ∧ Abs.kget ws s = some vs ∧ FRs (explode T x) vs
  | [], [], _, _ => .inl ⟨rfl, rfl⟩
  | [], _ :: _, h, _ => by simp at h
  | _ :: _, [], h, _ => by simp at h
  | (a, b) :: kvs, (a', b') :: ws, hl, hr => by
    obtain ⟨h1, h2⟩ := hr 0 (by simp) (by simp)
    simp only [List.getElem_cons_zero] at h1 h2
    subst h1
    simp only [mget, Abs.kget]
    by_cases e : a = s
    · rw [if_pos e, if_pos e]
      exact .inr ⟨b, b', rfl, rfl, h2⟩
    · rw [if_neg e, if_neg e]
      exact mget_rel s (by simpa using hl) (fun j k1 k2 => hr (j + 1) (by simpa using k1) (by simpa using k2))
theorem ok_lookup (htb : TBOK P tb) (hs : EncL ρ H D L) (hh : HpR ρ H h) (hn : d < E.n) {t id : Nat} {ti : TI} {T : Ty} {x y : Operand} {s : ByteArray} {kvs : List (ByteArray × I T)} {z : I T} (ht : tb t = some ti) (hm : ti.map = some T) (hx : ev D x = some (.one (.m id))) (hy : ev D y = some (.one (.s s))) (ho : H[id]? = some (.map T kvs)) (hz : zeroT T = some z) :
    ValOK P ⟨some d, .lookup t x y false, ty, pos, af, gd⟩ E ρ H L h (asAT (explode T (mval kvs s z))) ∧ ValOK P ⟨some d, .lookup t x y true, ty, pos, af, gd⟩ E ρ H L h (.tup [asAT (explode T (mval kvs s z)), .one (.b (mhas kvs s))]) := by
  obtain ⟨i', F⟩ := htb.get ht
  obtain ⟨m, z', m1, m2, m3, m4⟩ := F.map T hm
  rw [hz] at m2
  cases m2
  obtain ⟨_, us, u1, u2⟩ := zeros_flat m4
  have hus : ∀ ι I w, Abs.VRs ι I w us m.zero := fun ι I w => by
    have hl : m.zero.length = us.length := by have := u2.1; simpa using this
    refine ⟨hl, fun j hj => ?_⟩
    have hj' : j < m.zero.length := by omega
    refine ⟨m.zero[j], List.getElem?_eq_getElem hj', ?_⟩
    refine u2.2 j (by simpa using hj') hj I w ι _ ?_
    rw [List.getElem_map]
    have := (zeros_flat m4).1
    exact .lit (Abs.okLit_of (List.all_eq_true.1 this _ (List.getElem_mem hj')))
  obtain ⟨av, h1, h2⟩ := ev_ok hs hx
  obtain ⟨u, rfl, h3⟩ := h2.one'
  obtain ⟨aw, k1, k2⟩ := ev_ok hs hy
  obtain ⟨u', rfl, k3⟩ := k2.one'
  cases k3.str
  obtain ⟨a, ws, o1, o2, o3, o4, o5⟩ := hh.map id T kvs ho
  have hid : u = .mp a := by
    cases h3 with
    | fl h => cases h
    | m hm1 => rw [o1] at hm1; cases hm1; rfl
  subst hid
  have key : CRs ρ H (explode T (mval kvs s z)) (match Abs.kget ws s with | some vs => vs | none => us) ∧ mhas kvs s = (Abs.kget ws s).isSome := by
    unfold mval mhas
    rcases mget_rel s o3 o5 with ⟨g1, g2⟩ | ⟨x', vs, g1, g2, g3⟩
    · rw [g1, g2]; exact ⟨u1.cr, rfl⟩
    · rw [g1, g2]; exact ⟨g3.cr, rfl⟩
  constructor
  · exact ⟨_, asAT_ok key.1, Abs.ar_lookup m1 h1 k1 o2 hus hn ⟨rfl, rfl⟩⟩
  · refine ⟨_, ?_, Abs.ar_lookupOk m1 h1 k1 o2 hus hn ⟨rfl, rfl⟩⟩
    refine .tup rfl (fun j h1 h2 => ?_)
    match j, h1 with
    | 0, _ => exact asAT_ok key.1
    | 1, _ => rw [key.2]; exact .one (.fl .b)
theorem ones_ok : ∀ {xs : List AT} {cs : List C} {avs : List AV}, ones xs = some cs → xs.length = avs.length → (∀ (j : Nat) (h1 : j < xs.length) (h2 : j < avs.length), ATR ρ H xs[j] avs[j]) → ∃ vs, avs = vs.map AV.one ∧ CRs ρ H cs vs
  | [], cs, avs, h, hl, hr => by
    cases h
    cases avs with
    | nil => exact ⟨[], rfl, .nil_⟩
    | cons _ _ => simp at hl
  | .one c :: xs, cs, avs, h, hl, hr => by
    simp only [ones] at h
    split at h
    · rename_i cs' h1
      cases h
      cases avs with
      | nil => simp at hl
      | cons av avs =>
        obtain ⟨vs, rfl, k2⟩ := ones_ok h1 (by simpa using hl) (fun j a b => hr (j + 1) (by simpa using a) (by simpa using b))
        have := hr 0 (by simp) (by simp)
        simp only [List.getElem_cons_zero] at this
        obtain ⟨v, rfl, k3⟩ := this.one'
        exact ⟨v :: vs, rfl, .cons k3 k2⟩
    · cases h
  | .agg _ :: xs, cs, avs, h, hl, hr => by cases h
  | .tup _ :: xs, cs, avs, h, hl, hr => by cases h

theorem valX_ok (htb : TBOK P tb) {op : Go.Op} (hn : d < E.n) {v : AT} (hv : (valX tb op D H).has v) (hs : EncL ρ H D L) (hh : HpR ρ H h) : ValOK P ⟨some d, op, ty, pos, af, gd⟩ E ρ H L h v := by
  unfold valX at hv
  split at hv
  · split at hv
    · rename_i s i h1 h2 h3
      obtain ⟨b, e1, e2⟩ := hv
      cases e2
      obtain ⟨ti, t1, t2⟩ := Option.map_eq_some_iff.1 h1
      exact ok_indexS htb hs hn t1 t2 h2 h3 e1
    · cases hv
  · split at hv
    · rename_i s h1 h2
      split at hv
      · rename_i a b h3 h4
        obtain ⟨q, e1, e2⟩ := hv
        cases e2
        obtain ⟨ti, t1, t2⟩ := Option.map_eq_some_iff.1 h1
        exact ok_sliceS htb hs hn t1 t2 h2 h3 h4 e1
      · cases hv
    · cases hv
  · split at hv
    · rename_i T' T xs a b h1 h2 h3 h4
      split at hv
      · rename_i hb
        obtain ⟨q, e1, e2⟩ := hv
        cases e2
        obtain ⟨ti, t1, t2⟩ := bind_some h1
        exact ok_clip htb hs hn t1 t2 (Nat.eq_of_beq_eq_true hb) h2 h3 h4 e1
      · cases hv
    · rename_i T' T a b h1 h2 h3 h4
      obtain ⟨q, e1, e2⟩ := hv
      cases e2
      obtain ⟨ti, t1, t2⟩ := bind_some h1
      exact ok_clipNil htb hs hn t1 t2 h2 h3 h4 e1
    · cases hv
  · split at hv
    · rename_i t1i kd a h1 h2 h3
      cases hv
      obtain ⟨ti, t1, t2⟩ := bind_some h2
      exact ok_conv htb hs hn h1 t1 t2 h3 (fun v hv => hv.int)
    · rename_i t1i kd k a h1 h2 h3
      cases hv
      obtain ⟨ti, t1, t2⟩ := bind_some h2
      exact ok_conv htb hs hn h1 t1 t2 h3 (fun v hv => hv.kint)
    · rename_i ti0 xs h1 h2 h3
      split at hv
      · rename_i h4 h5
        cases hv
        obtain ⟨ti, t1, t2⟩ := Option.map_eq_some_iff.1 h5
        exact ok_bytesS htb hs hn h1 t1 h4 t2 h3
      · cases hv
    · cases hv
  · split at hv
    · rename_i a h1
      cases hv
      obtain ⟨av, k1, k2⟩ := ev_ok hs h1
      obtain ⟨u, rfl, k3⟩ := k2.one'
      cases k3.int
      exact ⟨_, .one (.fl .i), Abs.ar_negW k1 hn ⟨rfl, rfl⟩⟩
    · cases hv
  · rename_i args tys
    split at hv
    · rename_i x y ha
      obtain rfl : args = #[x, y] := by rw [← ha]
      split at hv
      · rename_i a b h1 h2
        cases hv
        obtain ⟨av, k1, k2⟩ := ev_ok hs h1
        obtain ⟨u, rfl, k3⟩ := k2.one'
        cases k3.int
        obtain ⟨aw, m1, m2⟩ := ev_ok hs h2
        obtain ⟨u, rfl, m3⟩ := m2.one'
        cases m3.int
        exact ⟨_, .one (.fl .i), Abs.ar_min k1 m1 hn ⟨rfl, rfl⟩⟩
      · cases hv
    · cases hv
  · rename_i args tys
    split at hv
    · rename_i x y ha
      obtain rfl : args = #[x, y] := by rw [← ha]
      split at hv
      · rename_i a b h1 h2
        cases hv
        obtain ⟨av, k1, k2⟩ := ev_ok hs h1
        obtain ⟨u, rfl, k3⟩ := k2.one'
        cases k3.int
        obtain ⟨aw, m1, m2⟩ := ev_ok hs h2
        obtain ⟨u, rfl, m3⟩ := m2.one'
        cases m3.int
        exact ⟨_, .one (.fl .i), Abs.ar_max k1 m1 hn ⟨rfl, rfl⟩⟩
      · cases hv
    · cases hv
  · split at hv
    · rename_i T id s h1 h2 h3
      obtain ⟨ti, t1, t2⟩ := bind_some h1
      split at hv
      · rename_i T2 kvs z h4 h5
        split at hv
        · rename_i kvs' h6
          obtain ⟨e, rfl⟩ := castM_some h6
          subst e
          have := ok_lookup (P := P) (E := E) (h := h) (ty := ty) (pos := pos) (af := af) (gd := gd) htb hs hh hn t1 t2 h2 h3 h4 h5
          split at hv
          · cases hv; exact this.1
          · cases hv; exact this.2
        · cases hv
      · cases hv
    · cases hv
  · rename_i f first caps
    split at hv
    · rename_i xs h1 h2
      obtain rfl : first = #[] := by rw [← h1]
      split at hv
      · rename_i cs h3
        cases hv
        obtain ⟨avs, k1, k2, k3⟩ := evs_ok hs h2
        obtain ⟨vs, k4, k5⟩ := ones_ok h3 k2 k3
        have := Abs.ar_makeFunc (P := P) (E := E) (K := fun L2 h2 => L2 = (d, .one (.clo (.func f) vs)) :: L ∧ h2 = h) (ty := ty) (pos := pos) (af := af) (gd := gd) (f := f) k1 k4 hn ⟨rfl, rfl⟩
        rw [Array.toArray_toList] at this
        exact ⟨_, .one (.f k5.1 k5.2), this⟩
      · cases hv
    · cases hv
  · cases hv
theorem valX_mono {Hm H : List Ob} (hl : ∀ (id : Nat) (x : Ob), Hm[id]? = some x → x ≠ .gone → H[id]? = some x) {op : Go.Op} {v : AT} (hv : (valX tb op D Hm).has v) : (valX tb op D H).has v := by
  unfold valX at hv ⊢
  split at hv
  all_goals first
    | exact hv
    | (cases hv; done)
    | skip
  · split at hv
    · split at hv
      · rename_i hx hz
        rw [hl _ _ hx (by simp), hz]
        exact hv
      · cases hv
    · cases hv

theorem op_appendC (htb : TBOK P tb) (hn : d < E.n) {t tx : Nat} {ti : TI} {T : Ty} {x y : Operand} {xs ys zs : List (I T)} (ht : tb t = some ti) (he : ti.elem = some T) (hx : ev D x = some (.one (.lc T xs))) (hsrc : SrcD P E D H T tx y ys) (hl : lim1 xs ys = some zs) :
    OpOK P ⟨some d, .call ⟨.builtin .append, #[x, y], #[t, tx]⟩, ty, pos, af, gd⟩ E F D H (.one (.o H.length)) (H ++ [.row T 0 zs]) := fun ρ L h hs hh hf => by
  obtain ⟨i, G⟩ := htb.get ht
  obtain ⟨el, z', g0, g1, g2, g3, g4, g5, g6, g7, g8⟩ := G.elem T he
  obtain ⟨av, a1, a2⟩ := ev_ok hs hx
  obtain ⟨u, rfl, a3⟩ := a2.one'
  obtain ⟨es, rfl, e2⟩ : ∃ es, u = .immc (szT T) es ∧ FR (.l T xs) (.imm (szT T) es) := by cases a3 with | fl h => cases h | lc h => exact ⟨_, rfl, h⟩
  obtain ⟨ns, n2, n1⟩ := hsrc ρ L h hs hh
  have hne : el.zero ≠ [] := by intro e; rw [e] at g5; simp at g5; omega
  unfold lim1 at hl
  split at hl
  · cases hl
  · rename_i y0 ys0
    obtain ⟨rfl, hlim⟩ := lim_some hl
    have e3 := e2.frl
    obtain ⟨m1, m2⟩ := new_row g4 hh (e3.app n2)
    have hpos : 0 < ns.length := by rw [n2.len]; simp
    simp only [List.length_append] at hlim
    refine Abs.ar_appendC G.tb a1 g1 hne g5 g3 n1 hpos (by rw [n2.len, e3.len]; omega) g7 hn ⟨ρ ++ [some h.length], _, rfl, ?_, m2, Ev.push _ _, hf.push _ _⟩
    rw [List.length_append] at m1
    exact m1
theorem op_makeMap (hn : d < E.n) {t : Nat} {T : Ty} (hT : 0 < szT T) : OpOK P ⟨some d, .makeMap t none, ty, pos, af, gd⟩ E F D H (.one (.m H.length)) (H ++ [.map T []]) := fun ρ L h hs hp hf => by
  refine Abs.ar_makeMap hn ⟨ρ ++ [some h.length], _, rfl, .one (.m ?_), hp.push ⟨[], rfl, rfl, hT, fun j h => by simp at h⟩, Ev.push _ _, hf.push _ _⟩
  rw [← hp.len]; simp
theorem effX_ok (htb : TBOK P tb) {op : Go.Op} (hn : d < E.n) {v : AT} {H' : List Ob} (hv : (effX tb op D H).has (v, H')) : OpOK P ⟨some d, op, ty, pos, af, gd⟩ E F D H v H' := by
  unfold effX at hv
  split at hv
  · split at hv
    · rename_i T h1
      cases hv
      obtain ⟨ti, t1, t2⟩ := bind_some h1
      obtain ⟨i, G⟩ := htb.get t1
      obtain ⟨m, z, _, _, m3, _⟩ := G.map T t2
      exact op_makeMap hn m3
    · cases hv
  · rename_i args tys
    split at hv
    · rename_i x y t tx ha ht
      obtain rfl : args = #[x, y] := by rw [← ha]
      obtain rfl : tys = #[t, tx] := by rw [← ht]
      split at hv
      · rename_i T T' xs cy h1 h2 h3
        split at hv
        · rename_i U xs' ys h4 h5 h6
          obtain ⟨e, rfl⟩ := castL_some h5
          subst e
          obtain ⟨zs, e1, e2⟩ := hv
          cases e2
          obtain ⟨ti, t1, t2⟩ := bind_some h1
          obtain ⟨ui, u1, u2⟩ := bind_some h4
          exact op_appendC htb hn t1 t2 h2 (srcD_elems htb u1 u2 h3 h6) e1
        · cases hv
      · rename_i id s h1 h2 h3
        split at hv
        · rename_i n xs h4 h5
          obtain ⟨zs, e1, e2⟩ := hv
          cases e2
          obtain ⟨ti, t1, t2⟩ := bind_some h1
          obtain ⟨ui, u1, u2⟩ := Option.map_eq_some_iff.1 h4
          exact op_appendG htb hn t1 t2 h2 h5 (srcD_str htb u1 u2 h3) e1
        · cases hv
      · rename_i T' s h1 h2 h3
        split at hv
        · rename_i h4
          obtain ⟨zs, e1, e2⟩ := hv
          cases e2
          obtain ⟨ti, t1, t2⟩ := bind_some h1
          obtain ⟨ui, u1, u2⟩ := Option.map_eq_some_iff.1 h4
          exact op_appendNilG htb hn t1 t2 h2 (srcD_str htb u1 u2 h3) e1
        · cases hv
      · cases hv
    · cases hv
  · cases hv
theorem op_mapUpdate (htb : TBOK P tb) {t id : Nat} {ti : TI} {T : Ty} {x k y : Operand} {s : ByteArray} {kvs : List (ByteArray × I T)} {v : AT} {vs ds : List C} {e : I T} (ht : tb t = some ti) (hm : ti.map = some T) (hx : ev D x = some (.one (.m id))) (hk : ev D k = some (.one (.s s))) (ho : H[id]? = some (.map T kvs))
    (hy : ev D y = some v) (hv : cells v = some vs) (has : v = asAT vs) (hp : peeks [] vs = some ds) (hi : implode T ds = some e) : OpOK P ⟨none, .mapUpdate t x k y, ty, pos, af, gd⟩ E F D H (.tup []) (H.set id (.map T ((s, e) :: kvs))) := fun ρ L h hs hh hf => by
  obtain ⟨i', G⟩ := htb.get ht
  obtain ⟨m, z', m1, m2, m3, m4⟩ := G.map T hm
  obtain ⟨av, h1, h2⟩ := ev_ok hs hx
  obtain ⟨u, rfl, h3⟩ := h2.one'
  obtain ⟨aw, k1, k2⟩ := ev_ok hs hk
  obtain ⟨u', rfl, k3⟩ := k2.one'
  cases k3.str
  obtain ⟨a, ws, o1, o2, o3, o4, o5⟩ := hh.map id T kvs ho
  have hid : u = .mp a := by
    cases h3 with
    | fl h => cases h
    | m hm1 => rw [o1] at hm1; cases hm1; rfl
  subst hid
  obtain ⟨ay, y1, y2⟩ := ev_ok hs hy
  obtain ⟨us, y3, y4⟩ := cells_ok hv y2
  have hay : ay = Abs.asAV us := by
    subst has
    match vs, y2, hv, y4 with
    | [], y2, hv, y4 => cases y2 with | agg h => cases y3; have := h.1; cases us with | nil => rfl | cons _ _ => simp at this
    | [c], y2, hv, y4 => obtain ⟨q, rfl, _⟩ := y2.one'; cases y3; rfl
    | c :: c2 :: l, y2, hv, y4 =>
      cases y2 with
      | agg h =>
        cases y3
        have := h.1
        match us, this with
        | _ :: _ :: _, _ => rfl
  subst hay
  obtain ⟨ws', w1, w2⟩ := part_ok m3 hp hi y4
  have he : evo (.map T kvs) (.map T ((s, e) :: kvs)) := .inr (.inr (.inr ⟨_, _, _, rfl, rfl⟩))
  refine Abs.ar_mapUpdate m1 h1 k1 y1 w2.1 (fun j h1 h2 I w ι u hu => w2.2 j h1 h2 I w ι u hu) o2 ⟨ρ, .tup [], rfl, unit_ok, hh.set o1 ho he ⟨(s, ws') :: ws, rfl, by simp [o3], o4, fun j h1 h2 => ?_⟩, Ev.set ho he, hf.set o1 ho he⟩
  cases j with
  | zero => exact ⟨rfl, w1⟩
  | succ j => exact o5 j (by simpa using h1) (by simpa using h2)
theorem opX_ok (htb : TBOK P tb) {op : Go.Op} {H' : List Ob} (hv : (opX tb op D H).has H') : OpOK P ⟨none, op, ty, pos, af, gd⟩ E F D H (.tup []) H' := by
  unfold opX at hv
  split at hv
  · split at hv
    · rename_i T id s vs h1 h2 h3 h4
      obtain ⟨ti, t1, t2⟩ := bind_some h1
      obtain ⟨v, v1, v2⟩ := bind_some h4
      split at hv
      · rename_i T2 kvs ds h5 h6
        split at hv
        · rename_i kvs' y c h7 h8 h9
          obtain ⟨e, rfl⟩ := castM_some h7
          subst e
          split at hv
          · cases hv
            rw [v1] at h9
            cases h9
            cases v2
            exact op_mapUpdate htb t1 t2 h2 h3 h5 v1 rfl rfl h6 h8
          · cases hv
        · rename_i kvs' y cs h7 h8 h9
          obtain ⟨e, rfl⟩ := castM_some h7
          subst e
          split at hv
          · cases hv
          · rename_i hb
            cases hv
            rw [v1] at h9
            cases h9
            cases v2
            have hne : vs.length ≠ 1 := fun e => hb (by
              have e1 := implode_explode h8
              obtain ⟨i', G⟩ := htb.get t1
              obtain ⟨m, z', m1, m2, m3, m4⟩ := G.map _ t2
              have e2 := explode_len _ m3 y
              rw [e1] at e2
              have e3 : ∀ {a b : List C}, peeks [] a = some b → b.length = a.length := by
                intro a
                induction a with
                | nil => intro b hb; cases hb; rfl
                | cons q a ih =>
                  intro b hb
                  simp only [peeks] at hb
                  split at hb
                  · rename_i r1 r2; cases hb; simp [ih r2]
                  · cases hb
              have := e3 h6
              rw [show szT T2 = 1 by omega]; rfl)
            refine op_mapUpdate htb t1 t2 h2 h3 h5 v1 rfl ?_ h6 h8
            clear h6 h4 v1
            match vs, hne with
            | [], _ => rfl
            | [_], hne => exact absurd rfl hne
            | _ :: _ :: _, _ => rfl
        · cases hv
      · cases hv
    · cases hv
  · cases hv
end
end Go.Proofs.YtagnfckihdlhpaaDoor.Den

/-
  den's operations are right, put together.
-/
namespace Go.Proofs.YtagnfckihdlhpaaDoor.Den
open Go.RowKit
open Abs (V AV Env Heap ar)

section
variable {P : Program} {E : Abs.Cx} {F : In} {ρ : Rho} {H : List Ob} {D : List (Nat × AT)} {L : Env} {h : Heap} {d : Nat} {ty : TypeId} {pos : String} {af : Array Edge} {gd : Option (Nat × Bool)} {tb : Nat → Option TI}

theorem binV_ok {op : BinOp} {a b : C} {v : AT} (h : (binV op a b).has v) : ∃ c, v = .one c ∧ binP op a b some = some c := by
  have key : ∀ {p : Bool} {y : Int}, (∃ q, (bif p then some y else none) = some q ∧ (some (AT.one (.i q)) : Option AT) = some v) → ∃ c, v = .one c ∧ (bif p then some (C.i y) else none) = some c := by
    rintro p y ⟨q, h1, h2⟩
    cases p with
    | true => cases h1; cases h2; exact ⟨_, rfl, rfl⟩
    | false => cases h1
  unfold binV at h
  unfold binP
  split at h
  · exact key h
  · exact key h
  · exact key h
  · exact key h
  · exact key h
  · exact key h
  · rename_i x y
    obtain ⟨q, h1, h2⟩ := h
    unfold sCat at h1
    cases hp : decide (x.size + y.size ≤ 1099511627776) with
    | true => rw [hp] at h1; cases h1; cases h2; exact ⟨_, rfl, rfl⟩
    | false => rw [hp] at h1; cases h1
  · split at h
    · rename_i c hc
      cases h
      exact ⟨c, rfl, rfl⟩
    · cases h

theorem valD_ok (htb : TBOK P tb) {o : Oper} {d : Nat} (hd : o.dst = some d) (hn : d < E.n) {v : AT} (hv : (valD tb o D H).has v) (hs : EncL ρ H D L) (hh : HpR ρ H h) : ValOK P o E ρ H L h v := by
  obtain ⟨dst, op, ty, pos, af, gd⟩ := o
  simp only at hd
  subst hd
  have hmove : ∀ {x : Operand}, Pl.has (match ev D x with
    | some (.one .zs) => match (tb ty).bind (·.elem) with
      | some T => .ret (.one (.nil T))
      | none => .no
    | some v => .ret v
    | none => .no) v → ∃ av, Abs.ev L x = some av ∧ ATR ρ H v av := by
    intro x hv
    split at hv
    · rename_i hx
      split at hv
      · rename_i T hT
        cases hv
        obtain ⟨ti, t1, t2⟩ := bind_some hT
        obtain ⟨i, G⟩ := htb.get t1
        obtain ⟨el, z', g0, g1, g2, g3, g4, _⟩ := G.elem T t2
        obtain ⟨av, h1, h2⟩ := ev_ok hs hx
        obtain ⟨u, rfl, h3⟩ := h2.one'
        have : u = .lit (.slice none 0 0) := by cases h3 with | fl h => cases h | zs => rfl
        subst this
        exact ⟨_, h1, .one (.nil g4)⟩
      · cases hv
    · rename_i hx
      cases hv
      exact ev_ok hs hx
    · cases hv
  unfold valD at hv
  simp only at hv
  split at hv
  · obtain ⟨av, h1, h2⟩ := hmove hv
    exact ⟨av, h2, Abs.ar_move h1 hn ⟨rfl, rfl⟩⟩
  · obtain ⟨av, h1, h2⟩ := hmove hv
    exact ⟨av, h2, Abs.ar_assign h1 hn ⟨rfl, rfl⟩⟩
  · split at hv
    · rename_i p hc
      cases p with
      | true =>
        simp only at hv
        split at hv
        · rename_i va ha; cases hv; exact ok_pick hs hn hc ha
        · cases hv
      | false =>
        simp only at hv
        split at hv
        · rename_i va ha; cases hv; exact ok_pick hs hn hc ha
        · cases hv
    · cases hv
  · rename_i t parts
    split at hv
    · rename_i ti ps h1 h2
      split at hv
      · rename_i f fs cs h3 h4
        cases hv
        have := ok_build (P := P) (E := E) (h := h) (ty := ty) (pos := pos) (af := af) (gd := gd) htb hs hn h1 h2 (by rw [h3]; simp) h4
        exact this
      · cases hv
    · cases hv
  · split at hv
    · rename_i ti id off h1 h2
      split at hv
      · rename_i fo _ h3; cases hv; exact ok_fieldP htb hs hn h1 h2 h3
      · cases hv
    · rename_i ti T y off h1 h2
      split at hv
      · rename_i fo _ h3; cases hv; exact ok_fieldQ htb hs hn h1 h2 h3
      · cases hv
    · rename_i ti id k n T y off h1 h2
      split at hv
      · rename_i _ _ _ fo _ h3 h4; cases hv; exact ok_fieldE htb hs hn h1 h2 h3 h4
      · cases hv
    · cases hv
  · split at hv
    · rename_i ti cs h1 h2
      split at hv
      · rename_i fo ft _ h3
        split at hv
        · rename_i fi h4
          split at hv
          · rename_i v' h5; cases hv; exact ok_part htb hs hn h1 h2 h3 h4 h5
          · cases hv
        · cases hv
      · cases hv
    · cases hv
  · split at hv
    · rename_i ti id off h1 h2
      split at hv
      · rename_i cs h3
        split at hv
        · rename_i v' h4; cases hv; exact ok_loadP htb hs hh hn h1 h2 h3 h4
        · cases hv
      · cases hv
    · rename_i ti T y off h1 h2
      split at hv
      · rename_i v' h4; cases hv; exact ok_loadQ htb hs hn h1 h2 h4
      · cases hv
    · rename_i ti id k n T y off h1 h2
      split at hv
      · rename_i T' n' xs h3
        obtain ⟨av, a1, a2⟩ := ev_ok hs h2
        obtain ⟨u, rfl, a3⟩ := a2.one'
        obtain ⟨a, xs', rfl, c4, c5, c6, c7, c8⟩ := a3.eptr h3
        split at hv
        · rename_i hb
          have hb := Nat.eq_of_beq_eq_true hb
          split at hv
          · rename_i v' h4; cases hv; exact ok_loadE htb hs hh hn h1 h2 c5 (c8 hb) h4
          · cases hv
        · split at hv
          · rename_i xs2 hc
            obtain ⟨e, rfl⟩ := castL_some hc
            subst e
            obtain ⟨y', e1, e2⟩ := hv
            exact ok_loadE htb hs hh hn h1 h2 h3 e1 e2
          · cases hv
      · cases hv
    · cases hv
  · split at hv
    · rename_i T' T xs i h1 h2 h3
      split at hv
      · rename_i hb
        obtain ⟨e, e1, e2⟩ := hv
        cases e2
        obtain ⟨ti, t1, t2⟩ := bind_some h1
        exact ok_indexL htb hs hn t1 t2 (Nat.eq_of_beq_eq_true hb) h2 h3 e1
      · cases hv
    · rename_i T' id i h1 h2 h3
      split at hv
      · rename_i T n xs h4
        split at hv
        · rename_i hb
          obtain ⟨e, e1, e2⟩ := hv
          cases e2
          obtain ⟨ti, t1, t2⟩ := bind_some h1
          exact ok_indexO htb hs hh hn t1 t2 (Nat.eq_of_beq_eq_true hb) h2 h4 h3 e1
        · cases hv
      · cases hv
    · cases hv
  · split at hv
    · rename_i T' T xs h1 h2
      split at hv
      · rename_i hb
        split at hv
        · rename_i a b h3 h4
          obtain ⟨ys, e1, e2⟩ := hv
          cases e2
          obtain ⟨ti, t1, t2⟩ := bind_some h1
          exact ok_slice htb hs hn t1 t2 (Nat.eq_of_beq_eq_true hb) h2 h3 h4 e1
        · cases hv
      · cases hv
    · exact valX_ok htb hn hv hs hh
  · split at hv
    · rename_i h1; cases hv; exact ok_nilP hs hn h1
    · rename_i h1; cases hv; exact ok_nilQ hs hn h1
    · cases hv
  · split at hv
    · rename_i a b h1 h2
      split at hv
      · rename_i p
        split at hv
        · rename_i h3
          obtain ⟨ti, t1, t2⟩ := Option.map_eq_some_iff.1 h3
          obtain ⟨c, rfl, h4⟩ := binV_ok hv
          obtain ⟨c', h5, h6⟩ := ok_bin (P := P) (E := E) (h := h) (ty := ty) (pos := pos) (af := af) (gd := gd) hs hn h1 h2 (fun _ _ => ⟨ti, t1, t2⟩) htb h4
          cases h5
          exact h6
        · cases hv
      · rename_i hnb
        obtain ⟨c, rfl, h4⟩ := binV_ok hv
        obtain ⟨c', h5, h6⟩ := ok_bin (P := P) (E := E) (h := h) (ty := ty) (pos := pos) (af := af) (gd := gd) hs hn h1 h2 (fun p e => absurd e (hnb p)) htb h4
        cases h5
        exact h6
    · cases hv
  · split at hv
    · rename_i h1; cases hv; exact ok_not hs hn h1
    · cases hv
  · split at hv
    · rename_i xs h1
      split at hv
      · rename_i v' h2; cases hv; exact ok_extract hs hn h1 h2
      · cases hv
    · cases hv
  · split at hv
    · rename_i t1i ti a h1 h2 h3
      split at hv
      · rename_i h4; cases hv; exact ok_u8 htb hs hn h1 h2 h4 h3
      · exact valX_ok htb hn hv hs hh
    · exact valX_ok htb hn hv hs hh
  · rename_i args tys
    split at hv
    · rename_i x t ha ht
      obtain rfl : args = #[x] := by rw [← ha]
      obtain rfl : tys = #[t] := by rw [← ht]
      split at hv
      · rename_i ti s h1 h2
        split at hv
        · rename_i h3; cases hv; exact ok_lenS htb hs hn h1 h3 h2
        · cases hv
      · rename_i ti c h1 h2
        split at hv
        · rename_i T n h3 h4; cases hv; exact ok_len htb hs hh hn h1 h3 h2 h4
        · cases hv
      · cases hv
    · cases hv
  · exact valX_ok htb hn hv hs hh
theorem effD_ok (htb : TBOK P tb) {o : Oper} {d : Nat} (hd : o.dst = some d) (hn : d < E.n) {v : AT} {H' : List Ob} (hv : (effD tb o D H).has (v, H')) : OpOK P o E F D H v H' := by
  obtain ⟨dst, op, ty, pos, af, gd⟩ := o
  simp only at hd
  subst hd
  unfold effD at hv
  simp only at hv
  split at hv
  · split at hv
    · rename_i ti h1; cases hv; exact op_alloc htb hn h1
    · cases hv
  · split at hv
    · rename_i cs h1
      cases hv
      obtain ⟨v', h2, h3⟩ := bind_some h1
      exact op_box hn h2 h3
    · cases hv
  · rename_i t len parts
    split at hv
    · rename_i T ps h1 h2
      split at hv
      · rename_i z h3
        split at hv
        · rename_i xs h4 h5
          cases hv
          obtain ⟨ti, t1, t2⟩ := bind_some h1
          exact op_buildSlice htb hn t1 t2 h3 h2 h4 h5
        · cases hv
      · cases hv
    · cases hv
  · split at hv
    · rename_i T n h1 h2 h3
      split at hv
      · rename_i z h4
        obtain ⟨xs, e1, e2⟩ := hv
        cases e2
        obtain ⟨ti, t1, t2⟩ := bind_some h1
        exact op_make htb hn t1 t2 h4 h2 h3 e1
      · cases hv
    · cases hv
  · rename_i args tys
    split at hv
    · rename_i x y t tx ha ht
      obtain rfl : args = #[x, y] := by rw [← ha]
      obtain rfl : tys = #[t, tx] := by rw [← ht]
      split at hv
      · rename_i T U cx cy h1 h2 h3 h4
        obtain ⟨ti, t1, t2⟩ := bind_some h1
        obtain ⟨ui, u1, u2⟩ := bind_some h2
        split at hv
        · rename_i ys h5
          split at hv
          · rename_i id
            split at hv
            · rename_i T' n xs h6
              split at hv
              · rename_i xs' h7
                obtain ⟨e, rfl⟩ := castL_some h7
                subst e
                obtain ⟨zs, e1, e2⟩ := hv
                cases e2
                exact op_append htb hn t1 t2 u1 u2 h3 h6 h4 h5 e1
              · cases hv
            · cases hv
          · obtain ⟨zs, e1, e2⟩ := hv
            cases e2
            exact op_appendNil htb hn t1 t2 u1 u2 h3 h4 h5 e1
          · exact effX_ok htb hn hv
        · cases hv
      · exact effX_ok htb hn hv
    · cases hv
  · exact effX_ok htb hn hv
theorem immD_ok (htb : TBOK P tb) {o : Oper} {d : Nat} (hd : o.dst = some d) (hn : d < E.n) {v : AT} (hv : (immD tb o D).has v) : OpOK P o E F D H v H := by
  obtain ⟨dst, op, ty, pos, af, gd⟩ := o
  simp only at hd
  subst hd
  unfold immD at hv
  simp only at hv
  split at hv
  · rename_i t len parts
    split at hv
    · rename_i T ps h1 h2
      split at hv
      · rename_i z h3
        split at hv
        · rename_i xs h4 h5
          cases hv
          obtain ⟨ti, t1, t2⟩ := bind_some h1
          exact op_buildImm htb hn t1 t2 h3 h2 h4 h5
        · cases hv
      · cases hv
    · cases hv
  · cases hv
theorem opN_ok (htb : TBOK P tb) {o : Oper} (hd : o.dst = none) {H' : List Ob} (hv : (opN tb o D H).has H') : OpOK P o E F D H (.tup []) H' := by
  obtain ⟨dst, op, ty, pos, af, gd⟩ := o
  simp only at hd
  subst hd
  unfold opN at hv
  simp only at hv
  split at hv
  · split at hv
    · rename_i ti id off vs h1 h2 h3
      obtain ⟨v', k1, k2⟩ := bind_some h3
      split at hv
      · rename_i cs h4
        split at hv
        · rename_i hb
          simp only [Bool.and_eq_true] at hb
          cases hv
          exact op_storeP htb h1 h2 h4 k1 k2 (Nat.eq_of_beq_eq_true hb.1) (Nat.le_of_ble_eq_true hb.2)
        · cases hv
      · cases hv
    · rename_i ti id k n T e off vs h1 h2 h3
      obtain ⟨v', k1, k2⟩ := bind_some h3
      split at hv
      · rename_i ds h4
        split at hv
        · rename_i T' n' xs h5
          split at hv
          · rename_i xs' h6
            obtain ⟨eT, rfl⟩ := castL_some h6
            subst eT
            split at hv
            · rename_i hb
              simp only [Bool.and_eq_true] at hb
              have b1 := Nat.eq_of_beq_eq_true hb.1.1
              have b2 := Nat.le_of_ble_eq_true hb.1.2
              have b3 : 0 < szT T' := by simpa [Nat.blt_eq] using hb.2
              split at hv
              · rename_i hb
                have hb := Nat.eq_of_beq_eq_true hb
                split at hv
                · rename_i x' h7
                  cases hv
                  intro ρ L h hs hh hf
                  obtain ⟨av, a1, a2⟩ := ev_ok hs h2
                  obtain ⟨u, rfl, a3⟩ := a2.one'
                  obtain ⟨a, xs2, rfl, c4, c5, c6, c7, c8⟩ := a3.eptr h5
                  rw [h5] at c5
                  cases c5
                  exact op_storeE htb h1 h2 h5 (c8 hb) k1 k2 h4 h7 b1 b2 b3 ρ L h hs hh hf
                · cases hv
              · obtain ⟨e', e1, e2⟩ := hv
                dsimp only at e2
                split at e2
                · rename_i x' h7
                  cases e2
                  exact op_storeE htb h1 h2 h5 e1 k1 k2 h4 h7 b1 b2 b3
                · cases e2
            · cases hv
          · cases hv
        · cases hv
      · cases hv
    · cases hv
  · exact opX_ok htb hv
end
end Go.Proofs.YtagnfckihdlhpaaDoor.Den

/-
  Own rows become immutable: den's words for it are right.
-/
namespace Go.Proofs.YtagnfckihdlhpaaDoor.Den
open Go.RowKit
open Abs (V AV Env Heap ar)

def trV (id s : Nat) (es : List (List V)) (c : C) (v : V) : V := match c with
  | .o j => if j = id then .imm s es else v
  | _ => v
def trA (id s : Nat) (es : List (List V)) : AT → AV → AV
  | .one c, .one v => .one (trV id s es c v)
  | .agg cs, .agg vs => .agg (List.zipWith (trV id s es) cs vs)
  | _, av => av
def trL (id s : Nat) (es : List (List V)) (D : List (Nat × AT)) (L : Env) : List Nat → Env
  | [] => []
  | t :: ts => match D.lookup t, L.lookup t with
    | some v, some av => (t, trA id s es v av) :: trL id s es D L ts
    | _, _ => trL id s es D L ts
theorem trL_lookup (id s : Nat) (es : List (List V)) (D : List (Nat × AT)) (L : Env) (t : Nat) : ∀ (ts : List Nat) (u : AV), (trL id s es D L ts).lookup t = some u → ∃ v av, D.lookup t = some v ∧ L.lookup t = some av ∧ u = trA id s es v av
  | [], u, h => by simp [trL] at h
  | k :: ts, u, h => by
    simp only [trL] at h
    split at h
    · rename_i v av h1 h2
      rw [List.lookup_cons] at h
      by_cases e : t = k
      · subst e; simp at h; exact ⟨v, av, h1, h2, h.symm⟩
      · have : (t == k) = false := by simpa using e
        rw [this] at h
        exact trL_lookup id s es D L t ts u h
    · exact trL_lookup id s es D L t ts u h
theorem trL_mem (id s : Nat) (es : List (List V)) (D : List (Nat × AT)) (L : Env) (t : Nat) {v : AT} {av : AV} (h1 : D.lookup t = some v) (h2 : L.lookup t = some av) : ∀ (ts : List Nat), t ∈ ts → (trL id s es D L ts).lookup t = some (trA id s es v av)
  | [], h => by simp at h
  | k :: ts, h => by
    by_cases e : t = k
    · subst e
      simp [trL, h1, h2]
    · have hm : t ∈ ts := by rcases List.mem_cons.1 h with h | h; exact absurd h e; exact h
      have ih := trL_mem id s es D L t h1 h2 ts hm
      simp only [trL]
      split
      · rw [List.lookup_cons]
        have : (t == k) = false := by simpa using e
        rw [this]; exact ih
      · exact ih
theorem lookup_key {α : Type} {D : List (Nat × α)} {t : Nat} {v : α} (h : D.lookup t = some v) : t ∈ D.map Prod.fst := by
  induction D with
  | nil => simp at h
  | cons p D ih =>
    rw [List.lookup_cons] at h
    by_cases e : t = p.1
    · simp [e]
    · have : (t == p.1) = false := by simpa using e
      rw [this] at h
      simp [ih h]
theorem lookup_map {D : List (Nat × AT)} {f : AT → AT} {t : Nat} : (D.map fun p => (p.1, f p.2)).lookup t = (D.lookup t).map f := by
  induction D with
  | nil => rfl
  | cons p D ih =>
    obtain ⟨k, z⟩ := p
    simp only [List.map_cons]
    rw [List.lookup_cons, List.lookup_cons]
    cases t == k with
    | true => rfl
    | false => exact ih

section
variable {P : Program} {E : Abs.Cx} {F : In} {ρ : Rho} {H : List Ob} {D : List (Nat × AT)} {L : Env} {h : Heap}

theorem cr_fz {id n : Nat} {T : Ty} {xs : List (I T)} {es : List (List V)} (hr : H[id]? = some (.row T n xs)) (hx : FR (.l T xs) (.imm (szT T) es)) {c : C} {v : V} (hc : CR ρ H c v) : CR ρ (H.set id .gone) (c.fz id T xs) (trV id (szT T) es c v) := by
  have hev : Ev ρ H ρ (H.set id .gone) := Ev.set hr (evo.goes _)
  by_cases e : c = .o id
  · subst e
    simp only [C.fz, trV, if_true]
    rw [if_pos (Nat.beq_refl id)]
    exact .fl hx
  · have e1 : c.fz id T xs = c := by
      cases c <;> simp only [C.fz]
      rename_i j
      rw [if_neg (fun hb => e (by rw [Nat.eq_of_beq_eq_true hb]))]
    have e2 : trV id (szT T) es c v = v := by
      unfold trV
      split
      · rename_i j
        rw [if_neg (fun hb => e (by rw [hb]))]
      · rfl
    rw [e1, e2]
    exact hc.mono hev
theorem crs_fz {id n : Nat} {T : Ty} {xs : List (I T)} {es : List (List V)} (hr : H[id]? = some (.row T n xs)) (hx : FR (.l T xs) (.imm (szT T) es)) {cs : List C} {vs : List V} (hc : CRs ρ H cs vs) : CRs ρ (H.set id .gone) (cs.map (C.fz id T xs)) (List.zipWith (trV id (szT T) es) cs vs) :=
  ⟨by simp [hc.1], fun j h1 h2 => by
    simp only [List.getElem_map, List.getElem_zipWith]
    exact cr_fz hr hx (hc.2 j (by simpa using h1) (by have := hc.1; simp at h1; omega))⟩
theorem atr_fz {id n : Nat} {T : Ty} {xs : List (I T)} {es : List (List V)} (hr : H[id]? = some (.row T n xs)) (hx : FR (.l T xs) (.imm (szT T) es)) {v : AT} {av : AV} (hc : ATR ρ H v av) : ATR ρ (H.set id .gone) (v.fz id T xs) (trA id (szT T) es v av) := by
  cases hc with
  | one h => exact .one (cr_fz hr hx h)
  | agg h => exact .agg (crs_fz hr hx h)
  | tup hl h => exact (ATR.tup hl h).mono (Ev.set hr (evo.goes _))

/-- What is known of slots that den knows, when what they hold is told otherwise. -/
theorem rel_tr {E : Abs.Cx} {h2 : Heap} {ι : List Abs.Inf} {I I' : Nat → Prop} {a : Act} {w : World} {id s : Nat} {es : List (List V)} (r : Abs.Rel E L h ι I a w) (r' : Abs.Rel E L h2 ι I' a w) (hk : Abs.Keeps I I' w w) (hs : EncL ρ H D L)
    (hv : ∀ (c : C) (v : V) (u : Value), CR ρ H c v → Abs.VR I w ι v u → Abs.VR I' w ι (trV id s es c v) u) : Abs.Rel E (trL id s es D L (D.map Prod.fst)) h2 ι I' a w := by
  refine { r' with slots := fun t u hu => ?_ }
  obtain ⟨v, av, h1, h2', rfl⟩ := trL_lookup id s es D L t _ u hu
  obtain ⟨av', h3, h4⟩ := hs t v h1
  rw [h2'] at h3
  cases h3
  obtain ⟨c, k1, k2⟩ := r.slots t av h2'
  refine ⟨c, k1, ?_⟩
  cases h4 with
  | one hc => cases k2 with | one k2 => exact .one (hv _ _ _ hc k2)
  | @agg cs vs hc =>
    cases k2 with
    | agg hl hcs hr =>
      have hlen := hc.1
      refine .agg (by simp [hl, hlen]) (fun j hj => hcs j (by simp at hj; omega)) (fun j hj => ?_)
      simp only [List.getElem_zipWith]
      exact hv _ _ _ (hc.2 j (by simp at hj; omega) (by simp at hj; omega)) (hr j (by simp at hj; omega))
  | tup hl hh => exact k2.keep (Abs.Grows.refl _) hk

/-- The cells of the box that lies at a place. -/
def boxAt : Rho → List Ob → Nat → Option (List C)
  | some b :: ρ, .box cs :: H, a => if b = a then some cs else boxAt ρ H a
  | _ :: ρ, _ :: H, a => boxAt ρ H a
  | _, _, _ => none
theorem boxAt_some : ∀ {ρ : Rho} {H : List Ob} {a : Nat} {cs : List C}, boxAt ρ H a = some cs → ∃ id : Nat, ρ[id]? = some (some a) ∧ H[id]? = some (Ob.box cs)
  | [], H, a, cs, h => by unfold boxAt at h; cases h
  | x :: ρ, [], a, cs, h => by unfold boxAt at h; cases x <;> cases h
  | x :: ρ, o :: H, a, cs, h => by
    have up : boxAt ρ H a = some cs → ∃ id : Nat, (x :: ρ)[id]? = some (some a) ∧ (o :: H)[id]? = some (Ob.box cs) := fun h => by
      obtain ⟨id, h1, h2⟩ := boxAt_some h
      exact ⟨id + 1, by simpa using h1, by simpa using h2⟩
    unfold boxAt at h
    split at h
    · rename_i b _ ds _ _ e1 e2
      cases e1
      cases e2
      split at h
      · rename_i e; subst e; cases h; exact ⟨0, rfl, rfl⟩
      · exact up h
    · rename_i e1 e2; cases e1; cases e2; exact up h
    · cases h
theorem boxAt_mem : ∀ {ρ : Rho} {H : List Ob} {a id : Nat} {cs : List C}, (∀ (i j : Nat), ρ[i]? = some (some a) → ρ[j]? = some (some a) → i = j) → ρ[id]? = some (some a) → H[id]? = some (.box cs) → boxAt ρ H a = some cs
  | [], H, a, id, cs, _, h1, _ => by simp at h1
  | x :: ρ, [], a, id, cs, _, _, h2 => by simp at h2
  | x :: ρ, o :: H, a, id, cs, hi, h1, h2 => by
    cases id with
    | zero =>
      simp at h1 h2
      subst h1 h2
      simp [boxAt]
    | succ id =>
      have hne : x ≠ some a := fun e => by
        have := hi 0 (id + 1) (by simp [e]) h1
        omega
      have ih := boxAt_mem (ρ := ρ) (H := H) (a := a) (id := id) (cs := cs) (fun i j a1 a2 => by have := hi (i + 1) (j + 1) (by simpa using a1) (by simpa using a2); omega) (by simpa using h1) (by simpa using h2)
      unfold boxAt
      split
      · rename_i b _ ds _ _ e1 e2
        cases e1
        cases e2
        rw [if_neg (fun e => hne (by rw [e]))]
        exact ih
      · rename_i e1 e2; cases e1; cases e2; exact ih
      · rename_i hx
        exact (hx _ _ _ _ rfl rfl).elim
def trO (id s : Nat) (es : List (List V)) (ρ : Rho) (H : List Ob) (a : Nat) (o : Option Abs.Ob) : Option Abs.Ob := match boxAt ρ H a, o with
  | some cs, some (.row k [vs]) => some (.row k [List.zipWith (trV id s es) cs vs])
  | _, o => o
def trHp (id s : Nat) (es : List (List V)) (ρ : Rho) (H : List Ob) (h : Heap) : Heap := h.mapIdx (trO id s es ρ H)
theorem trHp_get {id s : Nat} {es : List (List V)} {a : Nat} : (trHp id s es ρ H h)[a]? = (h[a]?).map (trO id s es ρ H a) := by simp [trHp]
theorem trO_none {id s : Nat} {es : List (List V)} {a : Nat} {o : Option Abs.Ob} (h : boxAt ρ H a = none) : trO id s es ρ H a o = o := by unfold trO; rw [h]
theorem trO_some {id s : Nat} {es : List (List V)} {a : Nat} {o : Option Abs.Ob} {x : Abs.Ob} (h : trO id s es ρ H a o = some x) : ∃ y, o = some y := by
  cases o with
  | some y => exact ⟨y, rfl⟩
  | none => cases hb : boxAt ρ H a <;> simp [trO, hb] at h

/-- The objects, told otherwise. -/
theorem rel_trH {E : Abs.Cx} {L2 : Env} {hb : Heap} {ι : List Abs.Inf} {I I' : Nat → Prop} {a : Act} {w : World} {id s : Nat} {es : List (List V)} (r : Abs.Rel E L h ι I a w) (r' : Abs.Rel E L2 hb ι I' a w) (hp : HpR ρ H h) (hsub : ∀ (b : Nat) (o : Abs.Ob), hb[b]? = some (some o) → h[b]? = some (some o))
    (hv : ∀ (c : C) (v : V) (u : Value), CR ρ H c v → Abs.VR I w ι v u → Abs.VR I' w ι (trV id s es c v) u) : Abs.Rel E L2 (trHp id s es ρ H hb) ι I' a w := by
  have dn : ∀ {b : Nat} {o : Abs.Ob}, (trHp id s es ρ H hb)[b]? = some (some o) → ∃ o0, hb[b]? = some (some o0) ∧ trO id s es ρ H b (some o0) = some o := fun {b o} hx => by
    rw [trHp_get] at hx
    obtain ⟨o1, h1, h2⟩ := Option.map_eq_some_iff.1 hx
    obtain ⟨y, rfl⟩ := trO_some h2
    exact ⟨y, h1, h2⟩
  exact
  { r' with
    heap := by
      refine ⟨by simp [trHp, r'.heap.len], fun b o f x y => ?_, fun b o f x y => ?_, fun b b' o o' f f' x x' y y' e => ?_⟩
      · obtain ⟨o0, k1, k2⟩ := dn x
        have hor := r'.heap.obj b o0 f k1 y
        unfold trO at k2
        split at k2
        · rename_i cs k vs hb1 e
          cases e
          cases k2
          obtain ⟨id', g1, g2⟩ := boxAt_some hb1
          obtain ⟨a', vs', m1, m2, m3⟩ := hp.box id' cs g2
          rw [g1] at m1
          cases m1
          rw [hsub b _ k1] at m2
          cases m2
          obtain ⟨cur, t, q1, q2, q3, q4, q5, q6, q7⟩ := r.heap.obj b _ f (hsub b _ k1) y
          have hlen := m3.1
          refine ⟨cur, t, q1, q2, q3, q4, by simpa using q5, fun e he => by simp at he; subst he; simp [hlen], fun k hk j hj => ?_⟩
          simp at hk
          subst hk
          simp only [List.getElem_cons_zero] at hj ⊢
          have hj' : j < vs.length := by simp at hj; omega
          obtain ⟨u, u1, u2⟩ := q7 0 (by simp) j (by simpa using hj')
          refine ⟨u, u1, ?_⟩
          rw [List.getElem_zipWith]
          exact hv _ _ _ (m3.2 j (by simp at hj; omega) hj') (by simpa using u2)
        · rename_i hne
          cases k2
          exact hor
      · obtain ⟨o0, k1, _⟩ := dn x
        exact r'.heap.off b o0 f k1 y
      · obtain ⟨o0, k1, _⟩ := dn x
        obtain ⟨o1, k2, _⟩ := dn x'
        exact r'.heap.inj b b' o0 o1 f f' k1 k2 y y' e
    mine := fun b o f x y => by
      obtain ⟨o0, k1, _⟩ := dn x
      exact r'.mine b o0 f k1 y }

theorem fz_ev {id n : Nat} {T : Ty} {xs : List (I T)} (hr : H[id]? = some (.row T n xs)) : Ev ρ (H.set id .gone) ρ ((H.set id .gone).map (Ob.fz id T xs)) :=
  ⟨fun _ _ h => h, fun j x hx => ⟨x.fz id T xs, by rw [List.getElem?_map, hx]; rfl, by
    cases x with
    | box cs => exact .inr (.inr (.inl ⟨_, _, rfl, rfl⟩))
    | row T n xs => exact evo.refl _
    | map T kvs => exact evo.refl _
    | gone => exact evo.refl _⟩⟩

theorem fz_heap {id n s : Nat} {T : Ty} {xs : List (I T)} {es : List (List V)} {hb : Heap} (hs : s = szT T) (hp : HpR ρ H h) (hr : H[id]? = some (.row T n xs)) (hx : FR (.l T xs) (.imm (szT T) es)) (hbk : ∀ (b : Nat), ρ[id]? ≠ some (some b) → hb[b]? = h[b]?) (hbl : hb.length = h.length) :
    HpR ρ ((H.set id .gone).map (Ob.fz id T xs)) (trHp id s es ρ H hb) := by
  subst hs
  have hev := fz_ev (ρ := ρ) hr
  refine HpR.mk' (by simp [hp.len]) (fun j x hx' => ?_) hp.inj (fun i b hi => by simp [trHp, hbl]; exact hp.lt i b hi)
  simp only [List.getElem?_map, Option.map_eq_some_iff] at hx'
  obtain ⟨x0, k1, rfl⟩ := hx'
  rcases set_get k1 with ⟨rfl, rfl, _⟩ | ⟨hne, k1⟩
  · exact .inr (.inr rfl)
  · have hbox : ∀ {b : Nat}, ρ[j]? = some (some b) → (∀ cs, x0 ≠ .box cs) → boxAt ρ H b = none := fun {b} hb1 hn => by
      cases hq : boxAt ρ H b with
      | none => rfl
      | some cs =>
        obtain ⟨id', g1, g2⟩ := boxAt_some hq
        have := hp.inj _ _ _ g1 hb1
        subst this
        rw [k1] at g2
        cases g2
        exact absurd rfl (hn cs)
    have hb' : ∀ {b : Nat}, ρ[j]? = some (some b) → hb[b]? = h[b]? := fun {b} hb1 => hbk b fun e => hne (hp.inj _ _ _ hb1 e)
    rcases hp.ob k1 with ⟨b, y, m1, m2, m3⟩ | ⟨m1, T', n', rfl, m3⟩ | rfl
    · refine .inl ⟨b, trO id (szT T) es ρ H b y, m1, by rw [trHp_get, hb' m1, m2]; rfl, ?_⟩
      cases x0 with
      | box cs =>
        obtain ⟨vs, rfl, q⟩ := m3
        have hq := boxAt_mem (H := H) (fun i j a1 a2 => hp.inj i j b a1 a2) m1 k1
        refine ⟨List.zipWith (trV id (szT T) es) cs vs, ?_, (crs_fz hr hx q).mono hev⟩
        unfold trO
        rw [hq]
        simp [q.1]
      | row T' n' xs' => rw [trO_none (hbox m1 (fun cs e => by cases e))]; exact m3
      | map T' kvs => rw [trO_none (hbox m1 (fun cs e => by cases e))]; exact m3
      | gone => trivial
    · exact .inr (.inl ⟨m1, T', n', rfl, m3⟩)
    · exact .inr (.inr rfl)
theorem fz_fr {id n s : Nat} {T : Ty} {xs : List (I T)} {es : List (List V)} {hb : Heap} (hf : Fr F ρ H h) (hr : H[id]? = some (.row T n xs)) (hbk : ∀ (b : Nat), ρ[id]? ≠ some (some b) → hb[b]? = h[b]?) (hbl : hb.length = h.length) :
    Fr F ρ ((H.set id .gone).map (Ob.fz id T xs)) (trHp id s es ρ H hb) :=
  hf.step ((Ev.set hr (evo.goes _)).trans (fz_ev hr)) (by simp [trHp, hbl]) (fun _ _ h1 => .inl h1) (fun b hb1 hn => by
    rw [trHp_get, hbk b (hn id)]
    have : boxAt ρ H b = none := by
      cases hq : boxAt ρ H b with
      | none => rfl
      | some cs => obtain ⟨id', g1, _⟩ := boxAt_some hq; exact absurd g1 (hn id')
    cases h[b]? with
    | none => rfl
    | some o => simp [trO_none this])

/-- An own row becomes immutable. -/
theorem fz_ok {st : St} (hs : SR F ρ st L h) {id n : Nat} {T : Ty} {xs : List (I T)} (hr : st.H[id]? = some (.row T n xs)) : ∃ L2 h2, Abs.Shift L h L2 h2 ∧ SR F ρ (st.fz id T xs) L2 h2 := by
  have enc : ∀ es, FR (.l T xs) (.imm (szT T) es) → EncL ρ ((st.H.set id .gone).map (Ob.fz id T xs)) (st.L.map fun p => (p.1, p.2.fz id T xs)) (trL id (szT T) es st.L L (st.L.map Prod.fst)) := fun es hx t v hv => by
    rw [lookup_map] at hv
    obtain ⟨v0, h1, rfl⟩ := Option.map_eq_some_iff.1 hv
    obtain ⟨av, h2, h3⟩ := hs.slots t v0 h1
    exact ⟨_, trL_mem id _ es st.L L t h1 h2 _ (lookup_key h1), (atr_fz hr hx h3).mono (fz_ev hr)⟩
  rcases hs.heap.row id n T xs hr with ⟨a, es, h1, h2, h3⟩ | ⟨h1, rfl, h3⟩
  · have hbk : ∀ (b : Nat), ρ[id]? ≠ some (some b) → (h.set a none)[b]? = h[b]? := fun b hb => List.getElem?_set_ne (fun e => hb (by rw [← e]; exact h1))
    refine ⟨trL id (szT T) es st.L L (st.L.map Prod.fst), trHp id (szT T) es ρ st.H (h.set a none), ⟨fun E ι I act w r => ?_⟩, enc es h3, fz_heap rfl hs.heap hr h3 hbk (by simp), fz_fr hs.fr hr hbk (by simp)⟩
    obtain ⟨inf, hι, _, _⟩ := r.row h2
    have hv : ∀ (c : C) (v : V) (u : Value), CR ρ st.H c v → Abs.VR I w ι v u → Abs.VR (fun b => I b ∨ b = inf.block) w ι (trV id (szT T) es c v) u := fun c v u hc hv => by
      have hk : Abs.Keeps I (fun b => I b ∨ b = inf.block) w w := ⟨fun _ h => .inl h, fun _ _ _ => rfl⟩
      by_cases e : c = .o id
      · subst e
        simp only [trV, if_true]
        rcases hc.own hr with ⟨a', rfl, h4⟩ | ⟨rfl, h4⟩
        · rw [h1] at h4
          cases h4
          have hl := h3.frl.len
          have := Abs.VR.fz r h2 hι h3.flats hv (Abs.fits_ok (by simp [Abs.V.fits, hl]))
          simpa [Abs.V.fz, ← hl] using this
        · rw [h1] at h4; cases h4
      · have e2 : trV id (szT T) es c v = v := by
          unfold trV
          split
          · rename_i j
            rw [if_neg (fun hb => e (by rw [hb]))]
          · rfl
        rw [e2]
        exact hv.keep (Abs.Grows.refl _) hk
    refine ⟨_, rel_trH r (rel_tr r (r.freeze h2 hι) ⟨fun _ h => .inl h, fun _ _ _ => rfl⟩ hs.slots hv) hs.heap (fun b o hb => ?_) hv⟩
    rcases set_get hb with ⟨_, e, _⟩ | ⟨_, hb⟩
    · cases e
    · exact hb
  · refine ⟨trL id (szT T) [] st.L L (st.L.map Prod.fst), trHp id (szT T) [] ρ st.H h, ⟨fun E ι I act w r => ?_⟩, enc [] (.nil_ h3), fz_heap rfl hs.heap hr (.nil_ h3) (fun _ _ => rfl) rfl, fz_fr hs.fr hr (fun _ _ => rfl) rfl⟩
    have hv : ∀ (c : C) (v : V) (u : Value), CR ρ st.H c v → Abs.VR I w ι v u → Abs.VR I w ι (trV id (szT T) [] c v) u := fun c v u hc hv => by
      by_cases e : c = .o id
      · subst e
        simp only [trV, if_true]
        rcases hc.own hr with ⟨a', rfl, h4⟩ | ⟨rfl, h4⟩
        · rw [h1] at h4; cases h4
        · cases hv; exact .imm0 (Nat.zero_le _)
      · have e2 : trV id (szT T) [] c v = v := by
          unfold trV
          split
          · rename_i j
            rw [if_neg (fun hb => e (by rw [hb]))]
          · rfl
        rw [e2]
        exact hv
    exact ⟨I, rel_trH r (rel_tr r r (Abs.Keeps.refl _ _) hs.slots hv) hs.heap (fun _ _ h => h) hv⟩
theorem fzIds_ok : ∀ {ids : List Nat} {st : St} {L : Env} {h : Heap}, SR F ρ st L h → ∃ L2 h2, Abs.Shift L h L2 h2 ∧ SR F ρ (fzIds ids st) L2 h2
  | [], st, L, h, hs => ⟨L, h, .refl _ _, hs⟩
  | id :: ids, st, L, h, hs => by
    simp only [fzIds]
    split
    · rename_i T n xs hr
      obtain ⟨L2, h2, k1, k2⟩ := fz_ok hs hr
      obtain ⟨L3, h3, k3, k4⟩ := fzIds_ok (ids := ids) k2
      exact ⟨L3, h3, k1.trans k3, k4⟩
    · exact fzIds_ok hs
end
end Go.Proofs.YtagnfckihdlhpaaDoor.Den

/-
  Objects numbered anew, slices that are nil as own rows: den's words for it are right.
-/
namespace Go.Proofs.YtagnfckihdlhpaaDoor.Den
open Go.RowKit
open Abs (V AV Env Heap ar)

theorem pos_some : ∀ {ks : List Nat} {id j : Nat}, pos ks id = some j → ks[j]? = some id
  | [], _, _, h => by cases h
  | k :: ks, id, j, h => by
    simp only [pos] at h
    split at h
    · rename_i hb; cases h; simp [Nat.eq_of_beq_eq_true hb]
    · split at h
      · rename_i m hm; cases h; simpa using pos_some hm
      · cases h
theorem nodup_inj : ∀ {ks : List Nat}, nodupB ks = true → ∀ {i j x : Nat}, ks[i]? = some x → ks[j]? = some x → i = j
  | [], _, _, _, _, h, _ => by simp at h
  | k :: ks, hn, i, j, x, h1, h2 => by
    simp only [nodupB, Bool.and_eq_true, Bool.not_eq_true'] at hn
    have hk : k ∉ ks := by
      intro hm
      have := hn.1
      rw [List.contains_iff_mem.2 hm] at this
      cases this
    cases i with
    | zero =>
      cases j with
      | zero => rfl
      | succ j =>
        simp at h1 h2
        subst h1
        exact absurd (List.mem_of_getElem? h2) hk
    | succ i =>
      cases j with
      | zero =>
        simp at h1 h2
        subst h2
        exact absurd (List.mem_of_getElem? h1) hk
      | succ j => simp at h1 h2; rw [nodup_inj hn.2 h1 h2]
theorem getAll_some {H : List Ob} : ∀ {ks : List Nat} {xs : List Ob}, getAll H ks = some xs → xs.length = ks.length ∧ ∀ (j id : Nat), ks[j]? = some id → ∃ x, H[id]? = some x ∧ xs[j]? = some x
  | [], xs, h => by cases h; exact ⟨rfl, fun j id h => by simp at h⟩
  | k :: ks, xs, h => by
    simp only [getAll] at h
    split at h
    · rename_i x ys h1 h2
      cases h
      obtain ⟨i1, i2⟩ := getAll_some h2
      refine ⟨by simp [i1], fun j id hj => ?_⟩
      cases j with
      | zero => simp at hj; subst hj; exact ⟨x, h1, rfl⟩
      | succ j => exact i2 j id (by simpa using hj)
    · cases h
theorem obs_some {g : Nat → Option Nat} : ∀ {xs ys : List Ob}, obs g xs = some ys → ys.length = xs.length ∧ ∀ (j : Nat) (x : Ob), xs[j]? = some x → ∃ y, ys[j]? = some y ∧ x.mv g = some y
  | [], ys, h => by cases h; exact ⟨rfl, fun j id h => by simp at h⟩
  | k :: ks, xs, h => by
    simp only [obs] at h
    split at h
    · rename_i x ys h1 h2
      cases h
      obtain ⟨i1, i2⟩ := obs_some h2
      refine ⟨by simp [i1], fun j id hj => ?_⟩
      cases j with
      | zero => simp at hj; subst hj; exact ⟨x, rfl, h1⟩
      | succ j => exact i2 j id (by simpa using hj)
    · cases h
theorem pickH_some {keep : List Nat} {H Hc : List Ob} (h : pickH keep H = some Hc) : Hc.length = keep.length ∧ ∀ (j id : Nat), keep[j]? = some id → ∃ x y, H[id]? = some x ∧ x.mv (pos keep) = some y ∧ Hc[j]? = some y.anew := by
  unfold pickH at h
  split at h
  · rename_i xs h1
    split at h
    · rename_i ys h2
      cases h
      obtain ⟨a1, a2⟩ := getAll_some h1
      obtain ⟨b1, b2⟩ := obs_some h2
      refine ⟨by simp [a1, b1], fun j id hj => ?_⟩
      obtain ⟨x, c1, c2⟩ := a2 j id hj
      obtain ⟨y, d1, d2⟩ := b2 j x c2
      exact ⟨x, y, c1, d2, by simp [d1]⟩
    · cases h
  · cases h
def pickρ (ρ : Rho) (keep : List Nat) : Rho := keep.map fun id => (ρ[id]?).getD none

/-- Cells whose ids are named anew. -/
def MvOK (g : Nat → Option Nat) (ρ : Rho) (H : List Ob) (ρ' : Rho) (H' : List Ob) : Prop := ∀ (id j : Nat), g id = some j → (∀ x, ρ[id]? = some x → ρ'[j]? = some x) ∧ ∀ (x : Ob), H[id]? = some x → ∃ y n, H'[j]? = some y ∧ (x = .gone → y = .gone) ∧ ∀ T m xs, x = .row T m xs → y = .row T n xs
section
variable {P : Program} {E : Abs.Cx} {F : In} {ρ ρ' : Rho} {H H' : List Ob} {D : List (Nat × AT)} {L : Env} {h : Heap} {g : Nat → Option Nat}
theorem cr_mv (hg : MvOK g ρ H ρ' H') {c c' : C} {v : V} (hc : CR ρ H c v) (hm : c.mv g = some c') : CR ρ' H' c' v := by
  have ho : ∀ {id : Nat}, c = .o id → ∃ j, g id = some j ∧ c' = .o j := fun {id} e => by
    subst e
    simp only [C.mv] at hm
    split at hm
    · rename_i j hj; cases hm; exact ⟨j, hj, rfl⟩
    · cases hm
  cases hc with
  | fl h =>
    have : c' = c := by cases h <;> (simp only [C.mv, Option.some.injEq] at hm; exact hm.symm)
    rw [this]; exact .fl h
  | lc h => simp only [C.mv, Option.some.injEq] at hm; subst hm; exact .lc h
  | nil h => simp only [C.mv, Option.some.injEq] at hm; subst hm; exact .nil h
  | o h1 h2 =>
    obtain ⟨j, h3, rfl⟩ := ho rfl
    obtain ⟨k1, k2⟩ := hg _ _ h3
    obtain ⟨y, n, k3, _, k5⟩ := k2 _ h2
    have := k5 _ _ _ rfl
    subst this
    exact .o (k1 _ h1) k3
  | oN h1 h2 =>
    obtain ⟨j, h3, rfl⟩ := ho rfl
    obtain ⟨k1, k2⟩ := hg _ _ h3
    obtain ⟨y, n, k3, _, k5⟩ := k2 _ h2
    have := k5 _ _ _ rfl
    subst this
    exact .oN (k1 _ h1) k3
  | oG h1 =>
    obtain ⟨j, h3, rfl⟩ := ho rfl
    obtain ⟨k1, k2⟩ := hg _ _ h3
    obtain ⟨y, n, k3, k4, _⟩ := k2 _ h1
    rw [k4 rfl] at k3
    exact .oG k3
  | p h1 =>
    simp only [C.mv] at hm
    split at hm
    · rename_i j hj; cases hm; exact .p ((hg _ _ hj).1 _ h1)
    · cases hm
  | e _ _ _ _ _ => cases hm
  | eG _ => cases hm
  | q h => simp only [C.mv, Option.some.injEq] at hm; subst hm; exact .q h
  | @f fn caps vs hl hr =>
    cases caps with
    | nil =>
      simp only [C.mv, Option.some.injEq] at hm; subst hm
      exact .f hl (fun j h => by simp at h)
    | cons _ _ => cases hm
  | m h1 =>
    simp only [C.mv] at hm
    split at hm
    · rename_i j hj; cases hm; exact .m ((hg _ _ hj).1 _ h1)
    · cases hm
  | zs => simp only [C.mv, Option.some.injEq] at hm; subst hm; exact .zs
  | zP => simp only [C.mv, Option.some.injEq] at hm; subst hm; exact .zP
  | zM => simp only [C.mv, Option.some.injEq] at hm; subst hm; exact .zM
  | zF => simp only [C.mv, Option.some.injEq] at hm; subst hm; exact .zF
theorem mvs_some : ∀ {cs ds : List C}, mvs g cs = some ds → ds.length = cs.length ∧ ∀ (j : Nat) (h1 : j < cs.length) (h2 : j < ds.length), cs[j].mv g = some ds[j]
  | [], ds, h => by cases h; exact ⟨rfl, fun j h => by simp at h⟩
  | c :: cs, ds, h => by
    simp only [mvs] at h
    split at h
    · rename_i x ys h1 h2
      cases h
      obtain ⟨i1, i2⟩ := mvs_some h2
      refine ⟨by simp [i1], fun j k1 k2 => ?_⟩
      cases j with
      | zero => exact h1
      | succ j => exact i2 j (by simpa using k1) (by simpa using k2)
    · cases h
theorem crs_mv (hg : MvOK g ρ H ρ' H') {cs ds : List C} {vs : List V} (hc : CRs ρ H cs vs) (hm : mvs g cs = some ds) : CRs ρ' H' ds vs := by
  obtain ⟨h1, h2⟩ := mvs_some hm
  exact ⟨by rw [h1]; exact hc.1, fun j k1 k2 => cr_mv hg (hc.2 j (by omega) k2) (h2 j (by omega) k1)⟩
theorem mvA_some : ∀ {cs ds : List AT}, AT.mv.mvA g cs = some ds → ds.length = cs.length ∧ ∀ (j : Nat) (h1 : j < cs.length) (h2 : j < ds.length), cs[j].mv g = some ds[j]
  | [], ds, h => by
    rw [AT.mv.mvA.eq_def] at h
    cases h; exact ⟨rfl, fun j h => by simp at h⟩
  | c :: cs, ds, h => by
    rw [AT.mv.mvA.eq_def] at h
    simp only at h
    split at h
    · rename_i x ys h1 h2
      cases h
      obtain ⟨i1, i2⟩ := mvA_some h2
      refine ⟨by simp [i1], fun j k1 k2 => ?_⟩
      cases j with
      | zero => exact h1
      | succ j => exact i2 j (by simpa using k1) (by simpa using k2)
    · cases h
theorem atr_mv (hg : MvOK g ρ H ρ' H') {v u : AT} {av : AV} (hc : ATR ρ H v av) (hm : v.mv g = some u) : ATR ρ' H' u av := by
  induction hc generalizing u with
  | one h =>
    rw [AT.mv.eq_def] at hm
    simp only at hm
    split at hm
    · rename_i d hd; cases hm; exact .one (cr_mv hg h hd)
    · cases hm
  | agg h =>
    rw [AT.mv.eq_def] at hm
    simp only at hm
    split at hm
    · rename_i d hd; cases hm; exact .agg (crs_mv hg h hd)
    · cases hm
  | tup hl h ih =>
    rw [AT.mv.eq_def] at hm
    simp only at hm
    split at hm
    · rename_i ys hy
      cases hm
      obtain ⟨h1, h2⟩ := mvA_some hy
      exact .tup (by rw [h1]; exact hl) (fun j k1 k2 => ih j (by omega) k2 (h2 j (by omega) k1))
    · cases hm

theorem ob_anew {x : Ob} {y : Option Abs.Ob} (h : obR ρ H x y) : obR ρ H x.anew y := by cases x <;> exact h
theorem ob_mv (hg : MvOK g ρ H ρ' H') {x x' : Ob} {y : Option Abs.Ob} (h : obR ρ H x y) (hm : x.mv g = some x') : obR ρ' H' x' y := by
  cases x with
  | box cs =>
    obtain ⟨vs, h1, h2⟩ := h
    simp only [Ob.mv] at hm
    split at hm
    · rename_i ds hd; cases hm; exact ⟨vs, h1, crs_mv hg h2 hd⟩
    · cases hm
  | row T n xs => cases hm; exact h
  | map T kvs => cases hm; exact h
  | gone => cases hm; trivial
theorem mv_shape {x x' : Ob} (hm : x.mv g = some x') : (x = .gone → x' = .gone) ∧ (∀ T m xs, x = .row T m xs → x' = .row T m xs) ∧ evo0 x x' := by
  cases x with
  | box cs =>
    simp only [Ob.mv] at hm
    split at hm
    · cases hm; exact ⟨fun e => (by cases e), fun _ _ _ e => (by cases e), .inr (.inr (.inl ⟨_, _, rfl, rfl⟩))⟩
    · cases hm
  | row T n xs => cases hm; exact ⟨fun e => (by cases e), fun _ _ _ e => (by cases e; rfl), evo0.refl _⟩
  | map T kvs => cases hm; exact ⟨fun e => (by cases e), fun _ _ _ e => (by cases e), evo0.refl _⟩
  | gone => cases hm; exact ⟨fun _ => rfl, fun _ _ _ e => (by cases e), evo0.refl _⟩
theorem anew_shape (x : Ob) : (x = .gone → x.anew = .gone) ∧ (∀ T m xs, x = .row T m xs → x.anew = .row T 0 xs) ∧ evo0 x x.anew := by
  cases x with
  | row T n xs => exact ⟨fun e => (by cases e), fun _ _ _ e => (by cases e; rfl), .inr (.inl ⟨T, n, xs, 0, xs, rfl, rfl, rfl⟩)⟩
  | box cs => exact ⟨fun e => (by cases e), fun _ _ _ e => (by cases e), evo0.refl _⟩
  | map T kvs => exact ⟨fun e => (by cases e), fun _ _ _ e => (by cases e), evo0.refl _⟩
  | gone => exact ⟨fun _ => rfl, fun _ _ _ e => (by cases e), evo0.refl _⟩
theorem evo0.trans {x y z : Ob} (h : evo0 x y) (k : evo0 y z) : evo0 x z := by
  rcases k with k | ⟨T, n, xs, n', xs', rfl, rfl, k1⟩ | ⟨cs, ds, rfl, rfl⟩ | ⟨T, a, b, rfl, rfl⟩
  · exact .inl k
  · rcases h with h | ⟨T2, m, ys, m', ys', rfl, h2, h3⟩ | ⟨_, _, _, h⟩ | ⟨_, _, _, _, h⟩
    · cases h
    · cases h2; exact .inr (.inl ⟨T, m, ys, n', xs', rfl, rfl, by omega⟩)
    · cases h
    · cases h
  · rcases h with h | ⟨_, _, _, _, _, _, h2, _⟩ | ⟨a, _, rfl, h⟩ | ⟨_, _, _, _, h⟩
    · cases h
    · cases h2
    · exact .inr (.inr (.inl ⟨a, ds, rfl, rfl⟩))
    · cases h
  · rcases h with h | ⟨_, _, _, _, _, _, h2, _⟩ | ⟨a, _, rfl, h⟩ | ⟨_, c, _, rfl, h⟩
    · cases h
    · cases h2
    · cases h
    · cases h; exact .inr (.inr (.inr ⟨T, c, b, rfl, rfl⟩))

/-- Some objects, as a heap of their own. -/
theorem pick_ok {keep : List Nat} {Hc : List Ob} (hp : HpR ρ H h) (hn : nodupB keep = true) (hk : pickH keep H = some Hc) : HpR (pickρ ρ keep) Hc h ∧ MvOK (pos keep) ρ H (pickρ ρ keep) Hc ∧ (∀ (j id : Nat), keep[j]? = some id → (pickρ ρ keep)[j]? = ρ[id]?) := by
  obtain ⟨k1, k2⟩ := pickH_some hk
  have hρ : ∀ (j id : Nat), keep[j]? = some id → (pickρ ρ keep)[j]? = ρ[id]? := fun j id hj => by
    obtain ⟨x, y, c1, _⟩ := k2 j id hj
    have hlt : id < ρ.length := by rw [hp.len]; exact (List.getElem?_eq_some_iff.1 c1).1
    simp [pickρ, hj, List.getElem?_eq_getElem hlt]
  have hinv : ∀ (j : Nat) (x : Option Nat), (pickρ ρ keep)[j]? = some x → ∃ id, keep[j]? = some id ∧ ρ[id]? = some x := fun j x hx => by
    have hlt := (List.getElem?_eq_some_iff.1 hx).1
    simp [pickρ] at hlt
    have e := List.getElem?_eq_getElem hlt
    exact ⟨_, e, by rw [← hρ j _ e]; exact hx⟩
  have hmv : MvOK (pos keep) ρ H (pickρ ρ keep) Hc := fun id j hj => by
    have hj := pos_some hj
    refine ⟨fun x hx => by rw [hρ j id hj]; exact hx, fun x hx => ?_⟩
    obtain ⟨x', y, c1, c2, c3⟩ := k2 j id hj
    rw [hx] at c1
    cases c1
    obtain ⟨d1, d2, _⟩ := mv_shape c2
    exact ⟨_, 0, c3, fun e => (anew_shape y).1 (d1 e), fun T m xs e => (anew_shape y).2.1 T m xs (d2 T m xs e)⟩
  refine ⟨HpR.mk' (by simp [pickρ, k1]) (fun j z hz => ?_) (fun i j a h1 h2 => ?_) (fun i a h1 => ?_), hmv, hρ⟩
  · have hlt := (List.getElem?_eq_some_iff.1 hz).1
    rw [k1] at hlt
    have e := List.getElem?_eq_getElem hlt
    obtain ⟨x, y, c1, c2, c3⟩ := k2 j _ e
    rw [hz] at c3
    cases c3
    rcases hp.ob c1 with ⟨a, w, m1, m2, m3⟩ | ⟨m1, T, n, rfl, m3⟩ | rfl
    · exact .inl ⟨a, w, by rw [hρ j _ e]; exact m1, m2, ob_anew (ob_mv hmv m3 c2)⟩
    · cases c2
      exact .inr (.inl ⟨by rw [hρ j _ e]; exact m1, T, 0, rfl, m3⟩)
    · cases c2
      exact .inr (.inr rfl)
  · obtain ⟨i1, e1, f1⟩ := hinv i _ h1
    obtain ⟨j1, e2, f2⟩ := hinv j _ h2
    have := hp.inj i1 j1 a f1 f2
    subst this
    exact nodup_inj hn e1 e2
  · obtain ⟨i1, e1, f1⟩ := hinv i _ h1
    exact hp.lt _ _ f1
end
end Go.Proofs.YtagnfckihdlhpaaDoor.Den

/-
  The state, cut down to what is still looked at: den's words for it are right.
-/
namespace Go.Proofs.YtagnfckihdlhpaaDoor.Den
open Go.RowKit
open Abs (V AV Env Heap ar)

def EncM (ρ : Rho) (H : List Ob) (D : List (Nat × AT)) (L : Env) : Prop := ∀ p ∈ D, ∃ av, L.lookup p.1 = some av ∧ ATR ρ H p.2 av
theorem lookup_mem {α : Type} {D : List (Nat × α)} {t : Nat} {v : α} (h : D.lookup t = some v) : (t, v) ∈ D := by
  induction D with
  | nil => simp at h
  | cons p D ih =>
    obtain ⟨k, z⟩ := p
    rw [List.lookup_cons] at h
    by_cases e : t = k
    · subst e; simp at h; subst h; simp
    · have : (t == k) = false := by simpa using e
      rw [this] at h
      exact List.mem_cons_of_mem _ (ih h)
section
variable {P : Program} {E : Abs.Cx} {F : In} {ρ ρ' : Rho} {H H' : List Ob} {D : List (Nat × AT)} {L : Env} {h : Heap}
theorem EncM.enc (h : EncM ρ H D L) : EncL ρ H D L := fun t v hv => h (t, v) (lookup_mem hv)
theorem EncM.mono (e : Ev ρ H ρ' H') (h : EncM ρ H D L) : EncM ρ' H' D L := fun p hp => let ⟨av, h1, h2⟩ := h p hp; ⟨av, h1, h2.mono e⟩
theorem slots_enc (hs : EncL ρ H D L) : ∀ ts, EncM ρ H (slots D ts) L
  | [] => fun p hp => by simp [slots] at hp
  | t :: ts => fun p hp => by
    simp only [slots] at hp
    split at hp
    · rename_i v hv
      rcases List.mem_cons.1 hp with rfl | hp
      · exact hs t v hv
      · exact slots_enc hs ts p hp
    · exact slots_enc hs ts p hp

structure Mat (F : In) (h : Heap) (ρ : Rho) (H : List Ob) (ρ' : Rho) (H' : List Ob) : Prop where
  heap : HpR ρ' H' h
  ev : Ev ρ H ρ' H'
  fr : Fr F ρ' H' h
theorem Mat.refl (hp : HpR ρ H h) (hf : Fr F ρ H h) : Mat F h ρ H ρ H := ⟨hp, Ev.refl _ _, hf⟩
theorem Mat.trans {ρ'' : Rho} {H'' : List Ob} (a : Mat F h ρ H ρ' H') (b : Mat F h ρ' H' ρ'' H'') : Mat F h ρ H ρ'' H'' := ⟨b.heap, a.ev.trans b.ev, b.fr⟩
theorem mat_nil {T : Ty} (hT : 0 < szT T) (hp : HpR ρ H h) (hf : Fr F ρ H h) : Mat F h ρ H (ρ ++ [none]) (H ++ [.row T 0 []]) ∧ CR (ρ ++ [none]) (H ++ [.row T 0 []]) (.o H.length) (.lit (.slice none 0 0)) :=
  ⟨⟨hp.nilRow hT, Ev.push _ _, hf.nilRow _⟩, by obtain ⟨m1, _⟩ := nil_row hT hp; obtain ⟨u, e, k⟩ := m1.one'; cases e; exact k⟩
theorem CR.nil' {T : Ty} {v : V} (hc : CR ρ H (.nil T) v) : v = .lit (.slice none 0 0) ∧ 0 < szT T := by
  cases hc with
  | fl h => cases h
  | nil hp => exact ⟨rfl, hp⟩
theorem CRs.head {c : C} {cs : List C} {vs : List V} (h : CRs ρ H (c :: cs) vs) : ∃ v us, vs = v :: us ∧ CR ρ H c v ∧ CRs ρ H cs us := by
  cases vs with
  | nil => have := h.1; simp at this
  | cons v us => exact ⟨v, us, rfl, h.2 0 (by simp) (by simp), by have := h.1; simpa using this, fun j h1 h2 => h.2 (j + 1) (by simpa using h1) (by simpa using h2)⟩
theorem matC_ok : ∀ {cs : List C} {H : List Ob} {ρ : Rho} {vs : List V}, HpR ρ H h → Fr F ρ H h → CRs ρ H cs vs → ∃ ρ', Mat F h ρ H ρ' (matC cs H).2 ∧ CRs ρ' (matC cs H).2 (matC cs H).1 vs
  | [], H, ρ, vs, hp, hf, hc => ⟨ρ, Mat.refl hp hf, hc⟩
  | c :: cs, H, ρ, vs, hp, hf, hc => by
    obtain ⟨v, us, rfl, h1, h2⟩ := hc.head
    by_cases e : ∃ T, c = .nil T
    · obtain ⟨T, rfl⟩ := e
      obtain ⟨rfl, hT⟩ := h1.nil'
      obtain ⟨m1, m2⟩ := mat_nil hT hp hf
      obtain ⟨ρ', k1, k2⟩ := matC_ok m1.heap m1.fr (h2.mono m1.ev)
      exact ⟨ρ', m1.trans k1, .cons (m2.mono k1.ev) k2⟩
    · obtain ⟨ρ', k1, k2⟩ := matC_ok hp hf h2
      have : matC (c :: cs) H = (c :: (matC cs H).1, (matC cs H).2) := by
        simp only [matC]
        split
        · exact absurd ⟨_, rfl⟩ e
        · rfl
      rw [this]
      exact ⟨ρ', k1, .cons (h1.mono k1.ev) k2⟩
theorem matA_ok {v : AT} {av : AV} (hp : HpR ρ H h) (hf : Fr F ρ H h) (hc : ATR ρ H v av) : ∃ ρ', Mat F h ρ H ρ' (matA v H).2 ∧ ATR ρ' (matA v H).2 (matA v H).1 av := by
  cases hc with
  | @one c u h1 =>
    by_cases e : ∃ T, c = .nil T
    · obtain ⟨T, rfl⟩ := e
      obtain ⟨rfl, hT⟩ := h1.nil'
      obtain ⟨m1, m2⟩ := mat_nil hT hp hf
      exact ⟨_, m1, .one m2⟩
    · have : matA (.one c) H = (.one c, H) := by
        simp only [matA]
        split
        · exact absurd ⟨_, rfl⟩ e
        · rfl
      rw [this]
      exact ⟨ρ, Mat.refl hp hf, .one h1⟩
  | agg h1 =>
    obtain ⟨ρ', k1, k2⟩ := matC_ok hp hf h1
    exact ⟨ρ', k1, .agg k2⟩
  | tup hl h1 => exact ⟨ρ, Mat.refl hp hf, .tup hl h1⟩
theorem matL_ok : ∀ {D : List (Nat × AT)} {H : List Ob} {ρ : Rho}, HpR ρ H h → Fr F ρ H h → EncM ρ H D L → ∃ ρ', Mat F h ρ H ρ' (matL D H).2 ∧ EncM ρ' (matL D H).2 (matL D H).1 L
  | [], H, ρ, hp, hf, hs => ⟨ρ, Mat.refl hp hf, hs⟩
  | (t, v) :: D, H, ρ, hp, hf, hs => by
    obtain ⟨av, h1, h2⟩ := hs (t, v) (by simp)
    obtain ⟨ρ1, k1, k2⟩ := matA_ok hp hf h2
    obtain ⟨ρ2, m1, m2⟩ := matL_ok k1.heap k1.fr (EncM.mono k1.ev (D := D) (L := L) (fun p hp => hs p (by simp [hp])))
    refine ⟨ρ2, k1.trans m1, fun p hp => ?_⟩
    simp only [matL] at hp
    rcases List.mem_cons.1 hp with rfl | hp
    · exact ⟨av, h1, k2.mono m1.ev⟩
    · exact m2 p hp
theorem matC_pre : ∀ (cs : List C) (H : List Ob), ∃ t, (matC cs H).2 = H ++ t
  | [], H => ⟨[], by simp [matC]⟩
  | c :: cs, H => by
    simp only [matC]
    split
    · rename_i T
      obtain ⟨t, e⟩ := matC_pre cs (H ++ [.row T 0 []])
      exact ⟨[.row T 0 []] ++ t, by simp [e]⟩
    · exact matC_pre cs H
theorem matH_ok : ∀ {n : Nat} {H : List Ob} {ρ : Rho}, HpR ρ H h → Fr F ρ H h → ∃ ρ', Mat F h ρ H ρ' (matH n H)
  | 0, H, ρ, hp, hf => ⟨ρ, Mat.refl hp hf⟩
  | n + 1, H, ρ, hp, hf => by
    simp only [matH]
    split
    · rename_i cs hb
      obtain ⟨a, vs, h1, h2, h3⟩ := hp.box n cs hb
      obtain ⟨ρ1, k1, k2⟩ := matC_ok hp hf h3
      have b1 : (matC cs H).2[n]? = some (.box cs) := by
        obtain ⟨t, e⟩ := matC_pre cs H
        rw [e, List.getElem?_append_left (List.getElem?_eq_some_iff.1 hb).1]; exact hb
      have he : evo (.box cs) (.box (matC cs H).1) := .inr (.inr (.inl ⟨_, _, rfl, rfl⟩))
      have hev : Ev ρ1 (matC cs H).2 ρ1 ((matC cs H).2.set n (.box (matC cs H).1)) := Ev.set b1 he
      have hs := k1.heap.set (y := some (.row vs.length [vs])) (k1.ev.rho _ _ h1) b1 he ⟨vs, rfl, k2.mono hev⟩
      have hsame : h.set a (some (.row vs.length [vs])) = h := by
        obtain ⟨hlt, e⟩ := List.getElem?_eq_some_iff.1 h2
        rw [← e, List.set_getElem_self]
      rw [hsame] at hs
      have hf2 := k1.fr.set (y := some (.row vs.length [vs])) (k1.ev.rho _ _ h1) b1 he
      rw [hsame] at hf2
      obtain ⟨ρ2, m1⟩ := matH_ok (n := n) hs hf2
      exact ⟨ρ2, k1.trans (Mat.trans ⟨hs, hev, hf2⟩ m1)⟩
    · exact matH_ok hp hf
theorem mvL_some {g : Nat → Option Nat} (hg : MvOK g ρ H ρ' H') : ∀ {D D' : List (Nat × AT)}, mvL g D = some D' → EncM ρ H D L → EncM ρ' H' D' L
  | [], D', h, _ => by cases h; intro p hp; simp at hp
  | (t, v) :: D, D', h, hs => by
    simp only [mvL] at h
    split at h
    · rename_i u D2 h1 h2
      cases h
      intro p hp
      rcases List.mem_cons.1 hp with rfl | hp
      · obtain ⟨av, k1, k2⟩ := hs (t, v) (by simp)
        exact ⟨av, k1, atr_mv hg k2 h1⟩
      · exact mvL_some hg h2 (fun q hq => hs q (by simp [hq])) p hp
    · cases h
theorem eqL_eq : ∀ {a b : List Nat}, eqL a b = true → a = b
  | [], [], _ => rfl
  | [], _ :: _, h => by cases h
  | _ :: _, [], h => by cases h
  | x :: a, y :: b, h => by
    simp only [eqL, Bool.and_eq_true] at h
    rw [Nat.eq_of_beq_eq_true h.1, eqL_eq h.2]
/-- The first objects are those that were handed in. -/
def In.ok (F : In) (r : Nat) : Prop := F.ρ.length = r ∧ F.H.length = r
theorem Fr.pick {keep : List Nat} {Hc : List Ob} {r : Nat} (hf : Fr F ρ H h) (hp : HpR ρ H h) (hi : F.ok r) (hn : nodupB keep = true) (hr : keep.take r = List.range r) (hk : pickH keep H = some Hc) : Fr F (pickρ ρ keep) Hc h := by
  obtain ⟨_, _, hρ⟩ := pick_ok hp hn hk
  obtain ⟨k1, k2⟩ := pickH_some hk
  have hrk : ∀ id, id < r → keep[id]? = some id := fun id hid => by
    have : (keep.take r)[id]? = (List.range r)[id]? := by rw [hr]
    rw [List.getElem?_take_of_lt hid] at this
    rw [this]; simp [hid]
  refine ⟨hf.len, fun id a h1 h2 => ?_, hf.same, fun id x h1 => ?_, fun id x h1 => ?_⟩
  · have hlt := (List.getElem?_eq_some_iff.1 h1).1
    simp [pickρ] at hlt
    have e := List.getElem?_eq_getElem hlt
    rw [hρ id _ e] at h1
    have h3 := hf.old _ a h1 h2
    have h4 : keep[id] < r := by rw [← hi.1]; exact (List.getElem?_eq_some_iff.1 h3).1
    have := nodup_inj hn e (hrk _ h4)
    rw [this]; exact h3
  · have hid : id < r := by rw [← hi.1]; exact (List.getElem?_eq_some_iff.1 h1).1
    rw [hρ id id (hrk id hid)]
    exact hf.rho id x h1
  · have hid : id < r := by rw [← hi.2]; exact (List.getElem?_eq_some_iff.1 h1).1
    obtain ⟨y, m1, m2⟩ := hf.ob id x h1
    obtain ⟨x', y', c1, c2, c3⟩ := k2 id id (hrk id hid)
    rw [m1] at c1
    cases c1
    exact ⟨_, c3, (m2.trans (mv_shape c2).2.2).trans (anew_shape y').2.2⟩
theorem restrict_ok {R : Type} {r : Nat} {lv : List Nat} {st : St} {K : St → Option R} {x : R} (hi : F.ok r) (hs : SR F ρ st L h) (hk : restrict r lv st K = some x) : ∃ ρ' st', K st' = some x ∧ SR F ρ' st' L h := by
  unfold restrict at hk
  obtain ⟨ρ1, a1⟩ := matH_ok (n := st.H.length) hs.heap hs.fr
  obtain ⟨ρ2, b1, b2⟩ := matL_ok a1.heap a1.fr (EncM.mono a1.ev (slots_enc hs.slots lv))
  simp only at hk
  split at hk
  · rename_i H' L' h1 h2 h3
    simp only [Bool.and_eq_true] at h1
    obtain ⟨c1, c2, _⟩ := pick_ok b1.heap h1.1 h2
    exact ⟨_, _, hk, (mvL_some c2 h3 b2).enc, c1, b1.fr.pick b1.heap hi h1.1 (eqL_eq h1.2) h2⟩
  · cases hk
end
end Go.Proofs.YtagnfckihdlhpaaDoor.Den

/-
  Calls in den's words are right.
-/
namespace Go.Proofs.YtagnfckihdlhpaaDoor.Abs
open Go.RowKit

theorem ARs.app {ι : List Inf} {I : Nat → Prop} {w : World} {a b : List AV} {cs ds : Array Value} (h : ARs ι I w a cs) (k : ARs ι I w b ds) : ARs ι I w (a ++ b) (cs ++ ds) := by
  refine ⟨by simp [h.1, k.1], fun j hj => ?_⟩
  by_cases e : j < a.length
  · obtain ⟨c, h1, h2⟩ := h.2 j e
    exact ⟨c, by rw [Array.getElem?_append_left (by rw [h.1]; exact e)]; exact h1, by rw [List.getElem_append_left e]; exact h2⟩
  · obtain ⟨c, h1, h2⟩ := k.2 (j - a.length) (by simp at hj; omega)
    exact ⟨c, by rw [Array.getElem?_append_right (by rw [h.1]; omega), h.1]; exact h1, by rw [List.getElem_append_right (by omega)]; exact h2⟩
theorem AR.clo' {ι : List Inf} {I : Nat → Prop} {w : World} {fn : Go.Fn} {vs : List V} {c : Value} (h : AR ι I w (.one (.clo fn vs)) c) : ∃ cs, c = .func fn #[] cs ∧ ARs ι I w (vs.map .one) cs := by
  cases h with
  | one h =>
    cases h with
    | clo hl hcs hr => exact ⟨_, rfl, by simpa using hl, fun j hj => ⟨_, hcs j (by simpa using hj), by rw [List.getElem_map]; exact .one (hr j (by simpa using hj))⟩⟩
def capOf : Value → Array Value
  | .func _ _ cs => cs
  | _ => #[]

section
variable {P : Program} {E : Cx} {K : Env → Heap → Prop} {L : Env} {h : Heap} {d f : Nat} {x : Operand} {args : List Operand} {tys : Array TypeId} {ty : TypeId} {pos : String} {af : Array Edge} {gd : Option (Nat × Bool)} {avs xs : List AV} {vs : List V} {R : AV → Heap → Prop}

theorem call_run (hc : callable P f) (hv : ev L x = some (.one (.clo (.func f) vs))) {ι : List Inf} {I : Nat → Prop} {a : Act} {w : World} (r : Rel E L h ι I a w) :
    (execOp a.eval (⟨some d, .call ⟨.value x, args.toArray, tys⟩, ty, pos, af, gd⟩ : Oper)).run P w = .ok (.enter f ((args.map a.eval).toArray ++ capOf (a.eval x))) w := by
  obtain ⟨cs, e, _⟩ := (r.ev hv).clo'
  simp [execOp, resolve, e, Deferred.ofValue, invoke, hc.run, capOf]
theorem call_args (hv : ev L x = some (.one (.clo (.func f) vs))) (hx : evs L args = some avs) {ι : List Inf} {I : Nat → Prop} {a : Act} {w : World} (r : Rel E L h ι I a w) : ARs ι I w (avs ++ vs.map .one) ((args.map a.eval).toArray ++ capOf (a.eval x)) := by
  obtain ⟨cs, e, k⟩ := (r.ev hv).clo'
  rw [e]
  exact (r.evs hx).app k
/-- A call of a function or a closure; the callee knows its arguments by other words. -/
theorem ar_callV (hv : ev L x = some (.one (.clo (.func f) vs))) (hx : evs L args = some avs) (hn : d < E.n) (hf : Fn P f xs h R) (hw : ∀ ι I w cs, ARs ι I w (avs ++ vs.map .one) cs → ARs ι I w xs cs) (hk : ∀ r h', R r h' → K ((d, r) :: L) h') :
    ar P ⟨some d, .call ⟨.value x, args.toArray, tys⟩, ty, pos, af, gd⟩ E K L h :=
  ar_of_fn (cs := fun a => (args.map a.eval).toArray ++ capOf (a.eval x)) rfl hn (fun _ _ ⟨_, _, r⟩ => call_run hf.1 hv r) (fun _ _ _ _ r => hw _ _ _ _ (call_args hv hx r)) hf hk
/-- A call that only looks at own rows. -/
theorem ar_borrowV (hv : ev L x = some (.one (.clo (.func f) vs))) (hx : evs L args = some avs) (hn : d < E.n) (hf : Fn P f xs [] R) (hsc : ∀ r h', R r h' → ∀ ι I w ι' I' w' c, AR ι I w r c → AR ι' I' w' r c)
    (hb : ∀ ι I a w, Rel E L h ι I a w → ∀ cs, ARs ι I w (avs ++ vs.map .one) cs → ARs [] (fun b => b < w.heap.size) w xs cs) (hk : ∀ r h', R r h' → K ((d, r) :: L) h) :
    ar P ⟨some d, .call ⟨.value x, args.toArray, tys⟩, ty, pos, af, gd⟩ E K L h := by
  refine ⟨fun Lf ι I a w r => ?_⟩
  unfold Oper.wp
  rw [call_run hf.1 hv r.low, Oper.upon_enter]
  refine (hf.2 w (fun b => b < w.heap.size) [] _ (HR.nil _ w) (fun _ h => h) (hb ι I a w r.low _ (call_args hv hx r.low))).mono ?_
  rintro e w' ⟨v, h', ι', I', c, hR, rfl, D⟩
  have hfr : ∀ b, b < w.heap.size → w'.heap[b]? = w.heap[b]? := fun b hb => D.frame b hb (noPass b)
  have hk' : Keeps I I w w' := ⟨fun _ h => h, fun b o hb => by simp only [World.cell?]; rw [hfr b (r.imm b hb)]⟩
  refine ⟨_, h, ι, I, hk v h' hR, Rel.put (c := c) ?_ hn (hsc v h' hR _ _ _ _ _ _ _ D.res)⟩
  exact
  { slots := fun t u hu => let ⟨c, x, y⟩ := r.slots t u hu; ⟨c, x, y.keep (Grows.refl _) hk'⟩
    heap := ⟨r.heap.len, fun id o inf x y => (r.heap.obj id o inf x y).keep (Grows.refl _) hk' (hfr _ (r.heap.blk x y)), r.heap.off, r.heap.inj⟩
    imm := fun b hb => by have := r.imm b hb; have := D.grown; omega
    immlo := r.immlo
    pre := r.pre
    os := D.os.trans r.os
    tape := D.tape.trans r.tape
    output := D.output.trans r.output
    grown := Nat.le_trans r.grown D.grown
    frame := fun b x y => by rw [hfr b (by have := r.grown; omega)]; exact r.frame b x y
    mine := r.mine
    defers := r.defers
    size := r.size }
end
end Go.Proofs.YtagnfckihdlhpaaDoor.Abs
namespace Go.Proofs.YtagnfckihdlhpaaDoor.Den
open Go.RowKit
open Abs (V AV Env Heap ar)

def ATRs (ρ : Rho) (H : List Ob) (xs : List AT) (avs : List AV) : Prop := xs.length = avs.length ∧ ∀ (j : Nat) (h1 : j < xs.length) (h2 : j < avs.length), ATR ρ H xs[j] avs[j]
/-- A function's contract in den's words: with these arguments and these objects it gives this. -/
def CFn (P : Program) (f : FuncId) (xs : List AT) (H : List Ob) (v : AT) (H' : List Ob) : Prop :=
  ∀ (ρ : Rho) (h : Heap) (avs : List AV), HpR ρ H h → ATRs ρ H xs avs → Abs.Fn P f avs h (fun r h' => ∃ ρ', ATR ρ' H' v r ∧ HpR ρ' H' h' ∧ Fr ⟨h, ρ, H⟩ ρ' H' h')
def OrcOK (P : Program) (O : Orc) : Prop := ∀ (R : Type) (f : Nat) (xs : List AT) (H : List Ob) (K : AT → List Ob → Option R) (r : R), O.call R f xs H K = some r → ∃ v H', K v H' = some r ∧ CFn P f xs H v H'

def EntOK (P : Program) (e : Ent) : Prop := ∀ (R : Type) (xs : List AT) (H : List Ob) (K : AT → List Ob → Option R) (r : R), e.call R xs H K = some r → ∃ v H', K v H' = some r ∧ CFn P e.f xs H v H'
theorem findE_some : ∀ {l : List Ent} {f : Nat} {e : Ent}, findE l f = some e → e ∈ l ∧ e.f = f
  | [], _, _, h => by cases h
  | x :: l, f, e, h => by
    simp only [findE] at h
    cases hb : Nat.beq x.f f with
    | true =>
      rw [hb] at h
      cases h
      exact ⟨by simp, Nat.eq_of_beq_eq_true hb⟩
    | false =>
      rw [hb] at h
      obtain ⟨h1, h2⟩ := findE_some h
      exact ⟨by simp [h1], h2⟩
def AllE (P : Program) : List Ent → Prop
  | [] => True
  | e :: l => EntOK P e ∧ AllE P l
theorem AllE.mem {P : Program} : ∀ {l : List Ent}, AllE P l → ∀ e ∈ l, EntOK P e
  | [], _, e, he => by simp at he
  | x :: l, h, e, he => by
    rcases List.mem_cons.1 he with rfl | he
    · exact h.1
    · exact h.2.mem e he
theorem orc_ok {P : Program} {l : List Ent} (h : AllE P l) : OrcOK P (orcOf l) := fun R f xs H K r hc => by
  simp only [orcOf] at hc
  split at hc
  · rename_i e he
    obtain ⟨h1, h2⟩ := findE_some he
    obtain ⟨v, H', k1, k2⟩ := h.mem e h1 R xs H K r hc
    exact ⟨v, H', k1, h2 ▸ k2⟩
  · cases hc

section
variable {P : Program} {E : Abs.Cx} {F : In} {ρ ρ' : Rho} {H H' : List Ob} {D : List (Nat × AT)} {L : Env} {h h' : Heap} {g : Nat → Option Nat} {R : Type}

theorem ATRs.mono (e : Ev ρ H ρ' H') {xs : List AT} {avs : List AV} (h : ATRs ρ H xs avs) : ATRs ρ' H' xs avs := ⟨h.1, fun j h1 h2 => (h.2 j h1 h2).mono e⟩
theorem ATRs.nil_ : ATRs ρ H [] [] := ⟨rfl, fun j h => by simp at h⟩
theorem ATRs.cons {x : AT} {av : AV} {xs : List AT} {avs : List AV} (h : ATR ρ H x av) (k : ATRs ρ H xs avs) : ATRs ρ H (x :: xs) (av :: avs) :=
  ⟨by simp [k.1], fun j h1 h2 => by
    cases j with
    | zero => exact h
    | succ j => exact k.2 j (by simpa using h1) (by simpa using h2)⟩
theorem ATRs.head {x : AT} {xs : List AT} {avs : List AV} (h : ATRs ρ H (x :: xs) avs) : ∃ av bvs, avs = av :: bvs ∧ ATR ρ H x av ∧ ATRs ρ H xs bvs := by
  cases avs with
  | nil => have := h.1; simp at this
  | cons v us => exact ⟨v, us, rfl, h.2 0 (by simp) (by simp), by have := h.1; simpa using this, fun j h1 h2 => h.2 (j + 1) (by simpa using h1) (by simpa using h2)⟩
theorem ATRs.app {a b : List AT} {x y : List AV} (h : ATRs ρ H a x) (k : ATRs ρ H b y) : ATRs ρ H (a ++ b) (x ++ y) :=
  ⟨by simp [h.1, k.1], fun j h1 h2 => by
    by_cases hj : j < a.length
    · have hj' : j < x.length := by rw [← h.1]; exact hj
      rw [List.getElem_append_left hj, List.getElem_append_left hj']
      exact h.2 j hj hj'
    · have hj' : ¬ j < x.length := by rw [← h.1]; exact hj
      rw [List.getElem_append_right (by omega), List.getElem_append_right (by omega)]
      have := k.2 (j - a.length) (by simp at h1; omega) (by simp at h2; have := h.1; omega)
      have e := h.1
      simp only [e] at this ⊢
      exact this⟩
theorem CRs.ats {cs : List C} {vs : List V} (h : CRs ρ H cs vs) : ATRs ρ H (cs.map .one) (vs.map .one) :=
  ⟨by simp [h.1], fun j h1 h2 => by simp only [List.getElem_map]; exact .one (h.2 j (by simpa using h1) (by simpa using h2))⟩
theorem CR.clo {f : Nat} {caps : List C} {v : V} (h : CR ρ H (.f f caps) v) : ∃ vs, v = .clo (.func f) vs ∧ CRs ρ H caps vs := by
  cases h with
  | fl h => cases h
  | f hl hr => exact ⟨_, rfl, hl, hr⟩

/-- Arguments, known by other words. -/
def Weak (avs bvs : List AV) : Prop := avs.length = bvs.length ∧ ∀ (j : Nat) (h1 : j < avs.length) (h2 : j < bvs.length), ∀ ι I w u, Abs.AR ι I w avs[j] u → Abs.AR ι I w bvs[j] u
theorem Weak.ars {avs bvs : List AV} (h : Weak avs bvs) {ι : List Abs.Inf} {I : Nat → Prop} {w : World} {cs : Array Value} (k : Abs.ARs ι I w avs cs) : Abs.ARs ι I w bvs cs :=
  ⟨by rw [k.1, h.1], fun j hj => by
    obtain ⟨c, h1, h2⟩ := k.2 j (by rw [h.1]; exact hj)
    exact ⟨c, h1, h.2 j _ hj _ _ _ _ h2⟩⟩
theorem Weak.nil_ : Weak [] [] := ⟨rfl, fun j h => by simp at h⟩
theorem Weak.cons {a b : AV} {avs bvs : List AV} (h : ∀ ι I w u, Abs.AR ι I w a u → Abs.AR ι I w b u) (k : Weak avs bvs) : Weak (a :: avs) (b :: bvs) :=
  ⟨by simp [k.1], fun j h1 h2 => by
    cases j with
    | zero => exact h
    | succ j => exact k.2 j (by simpa using h1) (by simpa using h2)⟩
theorem peekAs0_ok : ∀ {xs ys : List AT} {avs : List AV}, peekAs [] xs = some ys → ATRs ρ H xs avs → ∃ bvs, ATRs [] [] ys bvs ∧ Abs.AV.flats bvs = true ∧ Weak avs bvs
  | [], ys, avs, hp, hr => by
    cases hp
    have := hr.1
    cases avs with
    | nil => exact ⟨[], .nil_, rfl, .nil_⟩
    | cons _ _ => simp at this
  | x :: xs, ys, avs, hp, hr => by
    simp only [peekAs] at hp
    split at hp
    · rename_i y ys' h1 h2
      cases hp
      obtain ⟨av, avs, rfl, r1, r2⟩ := hr.head
      obtain ⟨bv, k1, k2, k3⟩ := peekA0_ok h1 r1
      obtain ⟨bvs, m1, m2, m3⟩ := peekAs0_ok h2 r2
      exact ⟨bv :: bvs, .cons k1 m1, by simp [Abs.AV.flats, k2, m2], .cons k3 m3⟩
    · cases hp

theorem HpR.ext (hp : HpR ρ H h) (hl : h.length ≤ h'.length) (hs : ∀ a, a < h.length → h'[a]? = h[a]?) : HpR ρ H h' :=
  HpR.mk' hp.len (fun id x hx => by
    rcases hp.ob hx with ⟨a, z, k1, k2, k3⟩ | k1 | k1
    · exact .inl ⟨a, z, k1, by rw [hs a (hp.lt _ _ k1)]; exact k2, k3⟩
    · exact .inr (.inl k1)
    · exact .inr (.inr k1)) hp.inj (fun i a h1 => by have := hp.lt i a h1; omega)
theorem Fr.ext (hf : Fr F ρ H h) (hl : h.length ≤ h'.length) (hs : ∀ a, a < h.length → h'[a]? = h[a]?) : Fr F ρ H h' :=
  hf.step (Ev.refl _ _) hl (fun _ _ h1 => .inl h1) (fun a h1 _ => hs a h1)
theorem HpR.nil_ : HpR [] [] h := HpR.mk' rfl (fun id x hx => by simp at hx) (fun i j a h1 => by simp at h1) (fun i a h1 => by simp at h1)

theorem peek_shape {H0 : List Ob} {c c' : C} (h : peek H0 c = some c') : flatC c' = true ∨ c' = .zs := by
  unfold peek at h
  split at h
  all_goals first
    | (cases h; done)
    | (cases h; first | exact .inl rfl | exact .inr rfl)
    | (split at h <;> first | (cases h; done) | (cases h; exact .inl rfl))
theorem CR.up2 {ρ0 : Rho} {H0 : List Ob} {c : C} {v : V} (hf : flatC c = true ∨ c = .zs) (h : CR ρ0 H0 c v) : CR ρ H c v := by
  rcases hf with hf | rfl
  · exact h.up hf
  · cases h with
    | fl h => cases h
    | zs => exact .zs
theorem peeks_shape {H0 : List Ob} : ∀ {cs ds : List C}, peeks H0 cs = some ds → ∀ d ∈ ds, flatC d = true ∨ d = .zs
  | [], ds, h => by cases h; simp
  | c :: cs, ds, h => by
    simp only [peeks] at h
    split at h
    · rename_i x xs h1 h2
      cases h
      intro d hd
      rcases List.mem_cons.1 hd with rfl | hd
      · exact peek_shape h1
      · exact peeks_shape h2 d hd
    · cases h
theorem peekA_up {H0 H1 : List Ob} {ρ0 : Rho} {x y : AT} {bv : AV} (hp : peekA H0 x = some y) (h : ATR ρ0 H1 y bv) : ATR ρ H y bv := by
  cases x with
  | one c =>
    simp only [peekA, Option.map_eq_some_iff] at hp
    obtain ⟨c', h1, rfl⟩ := hp
    cases h with
    | one k => exact .one (k.up2 (peek_shape h1))
  | agg cs =>
    simp only [peekA, Option.map_eq_some_iff] at hp
    obtain ⟨ds, h1, rfl⟩ := hp
    cases h with
    | agg k => exact .agg ⟨k.1, fun j a b => (k.2 j a b).up2 (peeks_shape h1 _ (List.getElem_mem a))⟩
  | tup _ => cases hp

/-- The arguments of a call that hands over own objects. -/
theorem convs_ok {O : Orc} {f : Nat} : ∀ {j : Nat} {xs ys : List AT} {H H' : List Ob} {ρ : Rho} {avs : List AV}, convs O f j xs H = some (ys, H') → HpR ρ H h → Fr F ρ H h → ATRs ρ H xs avs → ∃ ρ' bvs, Mat F h ρ H ρ' H' ∧ ATRs ρ' H' ys bvs ∧ Weak avs bvs
  | j, [], ys, H, H', ρ, avs, hc, hp, hf, hr => by
    simp only [convs] at hc
    cases hc
    have := hr.1
    cases avs with
    | nil => exact ⟨ρ, [], Mat.refl hp hf, .nil_, .nil_⟩
    | cons _ _ => simp at this
  | j, x :: xs, ys, H, H', ρ, avs, hc, hp, hf, hr => by
    obtain ⟨av, avs, rfl, r1, r2⟩ := hr.head
    unfold convs at hc
    split at hc
    · split at hc
      · rename_i y ys' H2 h1 h2
        cases hc
        obtain ⟨bv, k1, k2, k3⟩ := peekA0_ok h1 r1
        obtain ⟨ρ', bvs, m1, m2, m3⟩ := convs_ok h2 hp hf r2
        exact ⟨ρ', bv :: bvs, m1, .cons (peekA_up h1 k1) m2, .cons k3 m3⟩
      · cases hc
    · split at hc
      · rename_i T
        split at hc
        · rename_i ys' H2 h2
          cases hc
          cases r1 with
          | one k =>
            obtain ⟨rfl, hT⟩ := k.nil'
            obtain ⟨m1, m2⟩ := mat_nil hT hp hf
            obtain ⟨ρ', bvs, n1, n2, n3⟩ := convs_ok h2 m1.heap m1.fr (r2.mono m1.ev)
            exact ⟨ρ', _ :: bvs, m1.trans n1, .cons (.one (m2.mono n1.ev)) n2, .cons (fun _ _ _ _ h => h) n3⟩
        · cases hc
      · split at hc
        · rename_i ys' H2 h2
          cases hc
          obtain ⟨ρ', bvs, n1, n2, n3⟩ := convs_ok h2 hp hf r2
          exact ⟨ρ', av :: bvs, n1, .cons (r1.mono n1.ev) n2, .cons (fun _ _ _ _ h => h) n3⟩
        · cases hc
end
end Go.Proofs.YtagnfckihdlhpaaDoor.Den

/-
  The objects behind a call that was handed own objects; calls put together.
-/
namespace Go.Proofs.YtagnfckihdlhpaaDoor.Den
open Go.RowKit
open Abs (V AV Env Heap ar)

theorem setAll_len : ∀ (ks : List Nat) (H xs : List Ob), (setAll H ks xs).length = H.length
  | [], H, xs => by simp [setAll]
  | k :: ks, H, [] => by simp [setAll]
  | k :: ks, H, x :: xs => by
    simp only [setAll]
    rw [setAll_len ks]
    split <;> simp
theorem setAll_out : ∀ (ks : List Nat) (H xs : List Ob) {id : Nat}, id ∉ ks → (setAll H ks xs)[id]? = H[id]?
  | [], H, xs, id, _ => by simp [setAll]
  | k :: ks, H, [], id, _ => by simp [setAll]
  | k :: ks, H, x :: xs, id, hn => by
    simp only [setAll]
    rw [setAll_out ks _ xs (fun h => hn (by simp [h]))]
    split
    · rw [List.getElem?_set_ne (fun e => hn (by simp [e]))]
    · rfl
theorem setAll_in : ∀ (ks : List Nat) (H xs : List Ob) {j id : Nat} {x o : Ob}, nodupB ks = true → ks[j]? = some id → xs[j]? = some x → H[id]? = some o → (setAll H ks xs)[id]? = some (o.bump x)
  | [], H, xs, j, id, x, o, _, hj, _, _ => by simp at hj
  | k :: ks, H, [], j, id, x, o, _, _, hx, _ => by simp at hx
  | k :: ks, H, y :: ys, j, id, x, o, hn, hj, hx, ho => by
    have hn' := hn
    simp only [nodupB, Bool.and_eq_true, Bool.not_eq_true'] at hn
    simp only [setAll]
    cases j with
    | zero =>
      simp at hj hx
      subst hj hx
      have hk : k ∉ ks := fun hm => by
        have := hn.1
        rw [List.contains_iff_mem.2 hm] at this
        cases this
      rw [setAll_out ks _ ys hk, ho]
      simp only
      exact List.getElem?_set_self (List.getElem?_eq_some_iff.1 ho).1
    | succ j =>
      have hne : k ≠ id := fun e => by
        have := nodup_inj hn' (i := 0) (j := j + 1) (x := id) (by simp [e]) hj
        omega
      refine setAll_in ks _ ys hn.2 (by simpa using hj) (by simpa using hx) ?_
      split
      · rw [List.getElem?_set_ne hne]; exact ho
      · exact ho
theorem bump_evo {x y : Ob} (h : evo0 x y) : evo x (x.bump y) := by
  rcases h with rfl | ⟨T, n, xs, n', xs', rfl, rfl, h⟩ | ⟨cs, ds, rfl, rfl⟩ | ⟨T, a, b, rfl, rfl⟩
  · exact .inl rfl
  · exact .inr (.inl ⟨T, n, xs, n + 1, xs', rfl, rfl, h, by omega, fun e => by omega⟩)
  · exact .inr (.inr (.inl ⟨_, _, rfl, rfl⟩))
  · exact .inr (.inr (.inr ⟨_, _, _, rfl, rfl⟩))
theorem bump_shape (o y : Ob) : (y = .gone → o.bump y = .gone) ∧ ∃ n, ∀ T m xs, y = .row T m xs → o.bump y = .row T n xs := by
  refine ⟨fun e => by subst e; rfl, ?_⟩
  cases o with
  | row T n xs => exact ⟨n + 1, fun T m xs e => by subst e; rfl⟩
  | box cs => exact ⟨0, fun T m xs e => by subst e; rfl⟩
  | map T kvs => exact ⟨0, fun T m xs e => by subst e; rfl⟩
  | gone => exact ⟨0, fun T m xs e => by subst e; rfl⟩
theorem ob_bump {ρ : Rho} {H : List Ob} (o : Ob) {y : Ob} {z : Option Abs.Ob} (h : obR ρ H y z) : obR ρ H (o.bump y) z := by
  cases y with
  | row T n xs => cases o <;> exact h
  | box cs => exact h
  | map T kvs => exact h
  | gone => exact h

section
variable {P : Program} {E : Abs.Cx} {F : In} {ρ ρ' : Rho} {H : List Ob} {D : List (Nat × AT)} {L : Env} {h h' : Heap} {R : Type}

theorem scal_flatC {c : C} (h : scal c = true) : flatC c = true := by cases c <;> first | rfl | cases h
theorem ATR.upS {ρ0 : Rho} {H0 : List Ob} {v : AT} {av : AV} (h : ATR ρ0 H0 v av) (hf : v.scal = true) : ATR ρ H v av := by
  induction h with
  | one k => exact .one (k.up (scal_flatC (by simpa [AT.scal] using hf)))
  | @agg cs vs k =>
    have hf : cs.all scal = true := by simpa [AT.scal] using hf
    exact .agg ⟨k.1, fun j h1 h2 => (k.2 j h1 h2).up (scal_flatC (List.all_eq_true.1 hf _ (List.getElem_mem h1)))⟩
  | @tup xs ys hl hr ih =>
    have hf := scals_mem (by simpa [AT.scal] using hf : AT.scal.scals xs = true)
    exact .tup hl (fun j h1 h2 => ih j h1 h2 (hf _ (List.getElem_mem h1)))

theorem back_ok {keep : List Nat} {Hc Hc' Hb : List Ob} (hp : HpR ρ H h) (hf : Fr F ρ H h) (hn : nodupB keep = true) (hk : pickH keep H = some Hc) (hp' : HpR ρ' Hc' h') (hf' : Fr ⟨h, pickρ ρ keep, Hc⟩ ρ' Hc' h')
    (hl : keep.length ≤ Hc'.length) (ho : obs (back keep H.length) Hc' = some Hb) :
    HpR (ρ ++ ρ'.drop keep.length) (setAll H keep Hb ++ Hb.drop keep.length) h' ∧ Ev ρ H (ρ ++ ρ'.drop keep.length) (setAll H keep Hb ++ Hb.drop keep.length) ∧ Fr F (ρ ++ ρ'.drop keep.length) (setAll H keep Hb ++ Hb.drop keep.length) h' ∧
      MvOK (back keep H.length) ρ' Hc' (ρ ++ ρ'.drop keep.length) (setAll H keep Hb ++ Hb.drop keep.length) := by
  obtain ⟨_, _, hρ⟩ := pick_ok hp hn hk
  obtain ⟨k1, k2⟩ := pickH_some hk
  obtain ⟨b1, b2⟩ := obs_some ho
  have hlen := hp.len
  have hlen' := hp'.len
  have lo : ∀ {id : Nat}, id < H.length → (setAll H keep Hb ++ Hb.drop keep.length)[id]? = (setAll H keep Hb)[id]? := fun hid => List.getElem?_append_left (by rw [setAll_len]; exact hid)
  have hi : ∀ (i : Nat), (setAll H keep Hb ++ Hb.drop keep.length)[H.length + i]? = Hb[keep.length + i]? := fun i => by
    rw [List.getElem?_append_right (by rw [setAll_len]; omega), setAll_len, List.getElem?_drop]
    congr 1; omega
  have loρ : ∀ {id : Nat}, id < H.length → (ρ ++ ρ'.drop keep.length)[id]? = ρ[id]? := fun hid => List.getElem?_append_left (by omega)
  have hiρ : ∀ (i : Nat), (ρ ++ ρ'.drop keep.length)[H.length + i]? = ρ'[keep.length + i]? := fun i => by
    rw [List.getElem?_append_right (by omega), hlen, List.getElem?_drop]
    congr 1; omega
  -- an object that was handed over
  have key : ∀ (j id : Nat), keep[j]? = some id → ∃ x0 y yb, H[id]? = some x0 ∧ Hc'[j]? = some y ∧ y.mv (back keep H.length) = some yb ∧ (setAll H keep Hb)[id]? = some (x0.bump yb) ∧ evo x0 (x0.bump yb) ∧ ρ'[j]? = ρ[id]? := fun j id hj => by
    obtain ⟨x0, y0, c1, c2, c3⟩ := k2 j id hj
    obtain ⟨y, d1, d2⟩ := hf'.ob j _ c3
    obtain ⟨yb, e1, e2⟩ := b2 j y d1
    have hidl : id < ρ.length := by rw [hlen]; exact (List.getElem?_eq_some_iff.1 c1).1
    have hz := List.getElem?_eq_getElem hidl
    refine ⟨x0, y, yb, c1, d1, e2, setAll_in keep H Hb hn hj e1 c1, bump_evo ((((mv_shape c2).2.2).trans (anew_shape y0).2.2).trans (d2.trans (mv_shape e2).2.2)), ?_⟩
    rw [hz]
    refine hf'.rho j _ ?_
    show (pickρ ρ keep)[j]? = _
    rw [hρ j id hj, hz]
  have hev : Ev ρ H (ρ ++ ρ'.drop keep.length) (setAll H keep Hb ++ Hb.drop keep.length) := by
    refine ⟨fun id x hx => ?_, fun id x hx => ?_⟩
    · rw [loρ (by rw [← hlen]; exact (List.getElem?_eq_some_iff.1 hx).1)]; exact hx
    · rw [lo (List.getElem?_eq_some_iff.1 hx).1]
      by_cases hm : id ∈ keep
      · obtain ⟨j, hj⟩ := List.getElem?_of_mem hm
        obtain ⟨x0, y, yb, c1, _, _, c4, c5, _⟩ := key j id hj
        rw [hx] at c1
        cases c1
        exact ⟨_, c4, c5⟩
      · rw [setAll_out keep H Hb hm]
        exact ⟨x, hx, evo.refl x⟩
  have hmv : MvOK (back keep H.length) ρ' Hc' (ρ ++ ρ'.drop keep.length) (setAll H keep Hb ++ Hb.drop keep.length) := fun id j hg => by
    unfold back at hg
    split at hg
    · rename_i hlt
      obtain ⟨x0, y, yb, c1, c2, c3, c4, c5, c6⟩ := key id j hg
      have hj := (List.getElem?_eq_some_iff.1 c1).1
      refine ⟨fun x hx => by rw [loρ hj, ← c6]; exact hx, fun x hx => ?_⟩
      rw [c2] at hx
      cases hx
      obtain ⟨s1, n, s2⟩ := bump_shape x0 yb
      obtain ⟨t1, t2, _⟩ := mv_shape c3
      exact ⟨_, n, by rw [lo hj]; exact c4, fun e => s1 (t1 e), fun T m xs e => s2 T m xs (t2 T m xs e)⟩
    · rename_i hge
      have hge : keep.length ≤ id := by simpa [Nat.blt_eq] using hge
      cases hg
      have e : keep.length + (id - keep.length) = id := by omega
      refine ⟨fun x hx => by rw [hiρ, e]; exact hx, fun x hx => ?_⟩
      obtain ⟨yb, e1, e2⟩ := b2 id x hx
      obtain ⟨t1, t2, _⟩ := mv_shape e2
      cases x with
      | row T m xs => exact ⟨yb, m, by rw [hi, e]; exact e1, fun e => (by cases e), fun T m xs e => by cases e; exact t2 _ _ _ rfl⟩
      | gone => exact ⟨yb, 0, by rw [hi, e]; exact e1, t1, fun T m xs e => (by cases e)⟩
      | box cs => exact ⟨yb, 0, by rw [hi, e]; exact e1, t1, fun T m xs e => (by cases e)⟩
      | map T kvs => exact ⟨yb, 0, by rw [hi, e]; exact e1, t1, fun T m xs e => (by cases e)⟩
  have newρ : ∀ (id a : Nat), (ρ ++ ρ'.drop keep.length)[id]? = some (some a) → (id < H.length ∧ ρ[id]? = some (some a)) ∨ ∃ i, id = H.length + i ∧ ρ'[keep.length + i]? = some (some a) ∧ h.length ≤ a := fun id a ha => by
    by_cases hid : id < H.length
    · rw [loρ hid] at ha; exact .inl ⟨hid, ha⟩
    · obtain ⟨i, rfl⟩ : ∃ i, id = H.length + i := ⟨id - H.length, by omega⟩
      rw [hiρ] at ha
      refine .inr ⟨i, rfl, ha, Nat.le_of_not_lt fun hlt => ?_⟩
      have := hf'.old _ a ha hlt
      have := (List.getElem?_eq_some_iff.1 this).1
      simp [pickρ] at this
      omega
  have hsame : ∀ (a : Nat), a < h.length → (∀ (id : Nat), ρ[id]? = some (some a) → id ∉ keep) → h'[a]? = h[a]? := fun a ha hid => hf'.same a ha fun j hj => by
    have hj : (pickρ ρ keep)[j]? = some (some a) := hj
    have hlt := (List.getElem?_eq_some_iff.1 hj).1
    simp [pickρ] at hlt
    have e := List.getElem?_eq_getElem hlt
    rw [hρ j _ e] at hj
    exact hid _ hj (List.getElem_mem hlt)
  refine ⟨HpR.mk' ?_ (fun id x hx => ?_) (fun i j a h1 h2 => ?_) (fun i a h1 => ?_), hev, hf.step hev hf'.len (fun id a ha => ?_) (fun a ha hid => hsame a ha fun id hid' => absurd hid' (hid id)), hmv⟩
  · simp [setAll_len]; omega
  · by_cases hid : id < H.length
    · rw [lo hid] at hx
      rw [loρ hid]
      by_cases hm : id ∈ keep
      · obtain ⟨j, hj⟩ := List.getElem?_of_mem hm
        obtain ⟨x0, y, yb, c1, c2, c3, c4, c5, c6⟩ := key j id hj
        rw [c4] at hx
        cases hx
        rcases hp'.ob c2 with ⟨a, z, m1, m2, m3⟩ | ⟨m1, T, n, rfl, m3⟩ | rfl
        · exact .inl ⟨a, z, by rw [← c6]; exact m1, m2, ob_bump _ (ob_mv hmv m3 c3)⟩
        · cases c3
          obtain ⟨_, n', s2⟩ := bump_shape x0 (.row T n [])
          exact .inr (.inl ⟨by rw [← c6]; exact m1, T, n', s2 _ _ _ rfl, m3⟩)
        · cases c3
          exact .inr (.inr rfl)
      · rw [setAll_out keep H Hb hm] at hx
        rcases hp.ob hx with ⟨a, z, m1, m2, m3⟩ | m1 | m1
        · refine .inl ⟨a, z, m1, ?_, m3.mono hev⟩
          rw [hsame a (hp.lt _ _ m1) (fun id' h' => by rw [hp.inj _ _ _ h' m1]; exact hm)]
          exact m2
        · exact .inr (.inl m1)
        · exact .inr (.inr m1)
    · obtain ⟨i, rfl⟩ : ∃ i, id = H.length + i := ⟨id - H.length, by omega⟩
      rw [hi] at hx
      rw [hiρ]
      have hlt := (List.getElem?_eq_some_iff.1 hx).1
      rw [b1] at hlt
      have e := List.getElem?_eq_getElem hlt
      obtain ⟨yb, e1, e2⟩ := b2 _ _ e
      rw [e1] at hx
      cases hx
      rcases hp'.ob e with ⟨a, z, m1, m2, m3⟩ | ⟨m1, T, n, m2, m3⟩ | m1
      · exact .inl ⟨a, z, m1, m2, ob_mv hmv m3 e2⟩
      · rw [m2] at e2
        cases e2
        exact .inr (.inl ⟨m1, T, n, rfl, m3⟩)
      · rw [m1] at e2
        cases e2
        exact .inr (.inr rfl)
  · rcases newρ i a h1 with ⟨i1, i2⟩ | ⟨p, rfl, i2, i3⟩ <;> rcases newρ j a h2 with ⟨j1, j2⟩ | ⟨q, rfl, j2, j3⟩
    · exact hp.inj _ _ _ i2 j2
    · have := hp.lt _ _ i2; omega
    · have := hp.lt _ _ j2; omega
    · have := hp'.inj _ _ _ i2 j2; omega
  · rcases newρ i a h1 with ⟨i1, i2⟩ | ⟨p, rfl, i2, i3⟩
    · have := hp.lt _ _ i2; have := hf'.len; simp only at this; omega
    · exact hp'.lt _ _ i2
  · rcases newρ id a ha with ⟨_, i2⟩ | ⟨p, rfl, i2, i3⟩
    · exact .inl i2
    · exact .inr i3

section
variable {d f : Nat} {x : Operand} {args : List Operand} {tys : Array TypeId} {ty : TypeId} {pos : String} {af : Array Edge} {gd : Option (Nat × Bool)} {caps : List C} {xs ys : List AT} {v : AT} {H' : List Ob}
theorem callEv (hx : ev D x = some (.one (.f f caps))) (hxs : evs D args = some xs) (hs : EncL ρ H D L) : ∃ vs avs, Abs.ev L x = some (.one (.clo (.func f) vs)) ∧ Abs.evs L args = some avs ∧ ATRs ρ H (xs ++ caps.map .one) (avs ++ vs.map .one) := by
  obtain ⟨av, h1, h2⟩ := ev_ok hs hx
  obtain ⟨u, rfl, h3⟩ := h2.one'
  obtain ⟨vs, rfl, h4⟩ := h3.clo
  obtain ⟨avs, h5, h6⟩ := evs_ok hs hxs
  exact ⟨vs, avs, h1, h5, ATRs.app h6 h4.ats⟩
theorem callS_ok (hn : d < E.n) (hx : ev D x = some (.one (.f f caps))) (hxs : evs D args = some xs) (hy : peekAs H (xs ++ caps.map .one) = some ys) (hsc : v.scal = true) (h2 : CFn P f ys [] v H') : OpOK P ⟨some d, .call ⟨.value x, args.toArray, tys⟩, ty, pos, af, gd⟩ E F D H v H := fun ρ L h hs hp hf => by
  obtain ⟨vs, avs, e1, e2, e3⟩ := callEv hx hxs hs
  obtain ⟨bvs, k1, k2, k3, k4, k5⟩ := peekAs_ok (E := E) (L := L) hp hy e3.1 e3.2
  refine Abs.ar_borrowV e1 e2 hn (h2 [] [] bvs HpR.nil_ ⟨k1, k2⟩) (fun r h' ⟨ρ', m1, _⟩ => scal_ok m1 hsc) (fun ι I a w r cs hcs => ⟨by rw [hcs.1, k4], fun j hj => ?_⟩) (fun r h' ⟨ρ', m1, _⟩ => ⟨ρ, r, rfl, m1.upS hsc, hp, Ev.refl _ _, hf⟩)
  obtain ⟨c, c1, c2⟩ := hcs.2 j (by rw [k4]; exact hj)
  exact ⟨c, c1, k5 j _ hj ι I a w r c c2⟩
theorem callL_ok (hn : d < E.n) (hx : ev D x = some (.one (.f f caps))) (hxs : evs D args = some xs) (hy : peekAs [] (xs ++ caps.map .one) = some ys) (hfl : v.flat = true) (h2 : CFn P f ys [] v H') : OpOK P ⟨some d, .call ⟨.value x, args.toArray, tys⟩, ty, pos, af, gd⟩ E F D H v H := fun ρ L h hs hp hf => by
  obtain ⟨vs, avs, e1, e2, e3⟩ := callEv hx hxs hs
  obtain ⟨bvs, k1, k2, k3⟩ := peekAs0_ok hy e3
  refine Abs.ar_callV e1 e2 hn (h2 [] h bvs HpR.nil_ k1) (fun ι I w cs hcs => k3.ars hcs) (fun r h' ⟨ρ', m1, m2, m3⟩ => ?_)
  have hsame : ∀ a, a < h.length → h'[a]? = h[a]? := fun a ha => m3.same a ha (fun id => by simp)
  exact ⟨ρ, r, rfl, m1.up hfl, hp.ext m3.len hsame, Ev.refl _ _, hf.ext m3.len hsame⟩
end

/-- What an operation leaves as it is. -/
def Unt (ids : List Nat) (H H' : List Ob) : Prop := ∀ (id : Nat) (x : Ob), H[id]? = some x → id ∉ ids → H'[id]? = some x
theorem Unt.refl (ids : List Nat) (H : List Ob) : Unt ids H H := fun _ _ h _ => h
theorem convs_pre {O : Orc} {f : Nat} : ∀ {j : Nat} {xs ys : List AT} {H H' : List Ob}, convs O f j xs H = some (ys, H') → ∃ t, H' = H ++ t
  | j, [], ys, H, H', hc => by simp only [convs] at hc; cases hc; exact ⟨[], by simp⟩
  | j, x :: xs, ys, H, H', hc => by
    unfold convs at hc
    split at hc
    · split at hc
      · rename_i h2; cases hc; exact convs_pre h2
      · cases hc
    · split at hc
      · split at hc
        · rename_i h2
          cases hc
          obtain ⟨t, rfl⟩ := convs_pre h2
          exact ⟨_, List.append_assoc _ _ _⟩
        · cases hc
      · split at hc
        · rename_i h2; cases hc; exact convs_pre h2
        · cases hc
theorem callD_ok {O : Orc} (hO : OrcOK P O) {o : Oper} {d : Nat} (hd : o.dst = some d) (hn : d < E.n) {K : AT → List Ob → Option R} {r : R} (hc : callD O o D H K = some r) : ∃ v H', K v H' = some r ∧ OpOK P o E F D H v H' ∧ Unt (touch O o D H) H H' := by
  obtain ⟨dst, op, ty, pos, af, gd⟩ := o
  simp only at hd
  subst hd
  unfold callD at hc
  simp only at hc
  split at hc
  · rename_i x args tys
    split at hc
    · rename_i f caps xs hx hxs
      obtain ⟨args, rfl⟩ : ∃ l : List Operand, args = l.toArray := ⟨args.toList, by simp⟩
      simp only at hxs
      unfold callF at hc
      split at hc
      · split at hc
        · rename_i ys hy
          obtain ⟨v, H', h1, h2⟩ := hO _ _ _ _ _ _ hc
          split at h1
          · rename_i hsc
            exact ⟨v, H, h1, callS_ok hn hx hxs hy hsc h2, .refl _ _⟩
          · cases h1
        · cases hc
      · split at hc
        · rename_i ys hy
          obtain ⟨v, H', h1, h2⟩ := hO _ _ _ _ _ _ hc
          split at h1
          · rename_i hfl
            exact ⟨v, H, h1, callL_ok hn hx hxs hy hfl h2, .refl _ _⟩
          · cases h1
        · cases hc
      · rename_i m hmode
        split at hc
        · rename_i ys H1 hcv
          simp only at hc
          split at hc
          · rename_i Hc zs hnd hpk hmv
            obtain ⟨v, Hc', h1, h2⟩ := hO _ _ _ _ _ _ hc
            split at h1
            · rename_i Hb u hb1 hb2 hb3
              refine ⟨u, _, h1, fun ρ L h hs hp hf => ?_, fun id x hx0 hni => ?_⟩
              case refine_2 =>
                simp only [touch, hx, hxs, hmode, hcv] at hni
                obtain ⟨t, rfl⟩ := convs_pre hcv
                have hlt := (List.getElem?_eq_some_iff.1 hx0).1
                rw [List.getElem?_append_left (by rw [setAll_len]; simp; omega), setAll_out _ _ _ hni, List.getElem?_append_left hlt]
                exact hx0
              obtain ⟨vs, avs, e1, e2, e3⟩ := callEv hx hxs hs
              obtain ⟨ρ1, bvs, m1, m2, m3⟩ := convs_ok hcv hp hf e3
              obtain ⟨c1, c2, c3⟩ := pick_ok m1.heap hnd hpk
              obtain ⟨d1, d2⟩ := mvA_some hmv
              refine Abs.ar_callV e1 e2 hn (h2 _ h bvs c1 ⟨by rw [d1]; exact m2.1, fun j j1 j2 => atr_mv c2 (m2.2 j (by omega) j2) (d2 j (by omega) j1)⟩) (fun ι I w cs hcs => m3.ars hcs) (fun r h' ⟨ρ', n1, n2, n3⟩ => ?_)
              obtain ⟨p1, p2, p3, p4⟩ := back_ok m1.heap m1.fr hnd hpk n2 n3 (Nat.le_of_ble_eq_true hb1) hb2
              exact ⟨_, r, rfl, atr_mv p4 n1 hb3, p1, m1.ev.trans p2, p3⟩
            · cases h1
          · cases hc
        · cases hc
    · cases hc
  · cases hc
/-- Objects that are seen are there. -/
def Le (Hm H : List Ob) : Prop := ∀ (id : Nat) (x : Ob), Hm[id]? = some x → x ≠ .gone → H[id]? = some x
theorem Le.refl (H : List Ob) : Le H H := fun _ _ h _ => h
theorem Le.nil_ (H : List Ob) : Le [] H := fun _ _ h _ => by simp at h
theorem Le.unt {Hm H H' : List Ob} {ids : List Nat} (h : Le Hm H) (u : Unt ids H H') (hs : ids.all (unseen Hm) = true) : Le Hm H' := fun id x hx hg => by
  refine u id x (h id x hx hg) fun hm => ?_
  have := List.all_eq_true.1 hs id hm
  unfold unseen at this
  rw [hx] at this
  cases x <;> first | exact hg rfl | cases this
theorem Le.trans {A B H : List Ob} (h : Le A B) (k : Le B H) : Le A H := fun id x hx hg => k id x (h id x hx hg) hg
theorem hideH_le (ids : List Nat) (H : List Ob) : Le (hideH ids H) H := fun id x hx hg => by
  unfold hideH at hx
  rw [List.getElem?_mapIdx] at hx
  obtain ⟨o, h1, h2⟩ := Option.map_eq_some_iff.1 hx
  split at h2
  · exact absurd h2.symm hg
  · rw [h1, h2]
theorem Le.hide {Hd H H' : List Ob} {ids : List Nat} (h : Le Hd H) (u : Unt ids H H') : Le (hideH ids Hd) H' := fun id x hx hg => by
  refine u id x (h id x (hideH_le ids Hd id x hx hg) hg) fun hm => hg ?_
  unfold hideH at hx
  rw [List.getElem?_mapIdx] at hx
  obtain ⟨o, _, h2⟩ := Option.map_eq_some_iff.1 hx
  rw [if_pos (by simpa using hm)] at h2
  exact h2.symm
theorem maskH_le (vis : List Nat) (H : List Ob) : Le (maskH vis H) H := fun id x hx hg => by
  unfold maskH at hx
  rw [List.getElem?_mapIdx] at hx
  obtain ⟨o, h1, h2⟩ := Option.map_eq_some_iff.1 hx
  split at h2
  · rw [h1, h2]
  · exact absurd h2.symm hg
theorem peek_mono {Hm H : List Ob} (hl : Le Hm H) {c c' : C} (h : peek Hm c = some c') : peek H c = some c' := by
  unfold peek at h ⊢
  split at h
  case h_3 =>
    split at h
    · rename_i hx
      rw [hl _ _ hx (by simp)]
      exact h
    · cases h
  all_goals exact h
theorem peeks_mono {Hm H : List Ob} (hl : Le Hm H) : ∀ {cs ds : List C}, peeks Hm cs = some ds → peeks H cs = some ds
  | [], ds, h => h
  | c :: cs, ds, h => by
    simp only [peeks] at h ⊢
    split at h
    · rename_i x xs h1 h2
      rw [peek_mono hl h1, peeks_mono hl h2]
      exact h
    · cases h
theorem peekA_mono {Hm H : List Ob} (hl : Le Hm H) {x y : AT} (h : peekA Hm x = some y) : peekA H x = some y := by
  cases x with
  | one c =>
    simp only [peekA, Option.map_eq_some_iff] at h ⊢
    obtain ⟨c', h1, rfl⟩ := h
    exact ⟨c', peek_mono hl h1, rfl⟩
  | agg cs =>
    simp only [peekA, Option.map_eq_some_iff] at h ⊢
    obtain ⟨c', h1, rfl⟩ := h
    exact ⟨c', peeks_mono hl h1, rfl⟩
  | tup _ => cases h
theorem peekAs_mono {Hm H : List Ob} (hl : Le Hm H) : ∀ {xs ys : List AT}, peekAs Hm xs = some ys → peekAs H xs = some ys
  | [], ys, h => h
  | x :: xs, ys, h => by
    simp only [peekAs] at h ⊢
    split at h
    · rename_i y ys h1 h2
      rw [peekA_mono hl h1, peekAs_mono hl h2]
      exact h
    · cases h
/-- Calls that leave the own objects as they are. -/
theorem callK_ok {O : Orc} (hO : OrcOK P O) {o : Oper} {d : Nat} (hd : o.dst = some d) (hn : d < E.n) (hk : keeps O o D = true) {K : AT → List Ob → Option R} {r : R} (hc : callD O o D H K = some r) : ∃ v, K v H = some r ∧ ∀ H', Le H H' → OpOK P o E F D H' v H' := by
  obtain ⟨dst, op, ty, pos, af, gd⟩ := o
  simp only at hd
  subst hd
  unfold callD at hc
  simp only at hc
  split at hc
  · rename_i x args tys
    split at hc
    · rename_i f caps xs hx hxs
      obtain ⟨args, rfl⟩ : ∃ l : List Operand, args = l.toArray := ⟨args.toList, by simp⟩
      simp only at hxs
      simp only [keeps, hx] at hk
      unfold callF at hc
      split at hc
      · split at hc
        · rename_i ys hy
          obtain ⟨v, H', h1, h2⟩ := hO _ _ _ _ _ _ hc
          split at h1
          · rename_i hsc
            exact ⟨v, h1, fun H2 hl => callS_ok hn hx hxs (peekAs_mono hl hy) hsc h2⟩
          · cases h1
        · cases hc
      · split at hc
        · rename_i ys hy
          obtain ⟨v, H', h1, h2⟩ := hO _ _ _ _ _ _ hc
          split at h1
          · rename_i hfl
            exact ⟨v, h1, fun H2 _ => callL_ok hn hx hxs hy hfl h2⟩
          · cases h1
        · cases hc
      · rename_i m hm
        rw [hm] at hk
        simp [Nat.blt_eq] at hk
        omega
    · cases hc
  · cases hc
end
end Go.Proofs.YtagnfckihdlhpaaDoor.Den

/-
  den is right: code, in den's words, does what den says.
-/
namespace Go.Proofs.YtagnfckihdlhpaaDoor.Den
open Go.RowKit
open Abs (V AV Env Heap ar aw ao)

section
variable {P : Program} {E : Abs.Cx} {F : In} {ρ ρ' : Rho} {H : List Ob} {D : List (Nat × AT)} {L : Env} {h h' : Heap} {R : Type} {tb : Nat → Option TI} {O : Orc}

theorem lenC_mono {Hm H : List Ob} (hl : Le Hm H) {c : C} {n : Int} (h : lenC Hm c = some n) : lenC H c = some n := by
  unfold lenC at h ⊢
  split at h
  case h_5 =>
    split at h
    · rename_i hx
      rw [hl _ _ hx (by simp)]
      exact h
    · cases h
  all_goals exact h
theorem valD_mono {Hm H : List Ob} (hl : Le Hm H) {o : Oper} {v : AT} (hv : (valD tb o D Hm).has v) : (valD tb o D H).has v := by
  unfold valD at hv ⊢
  split at hv
  all_goals first
    | exact hv
    | (cases hv; done)
    | skip
  · split at hv
    · exact hv
    · exact hv
    · split at hv
      · rename_i hx hf
        rw [hl _ _ hx (by simp), hf]
        exact hv
      · cases hv
    · exact hv.elim
  · split at hv
    · split at hv
      · rename_i hx
        rw [hl _ _ hx (by simp)]
        exact hv
      · cases hv
    · exact hv
    · split at hv
      · rename_i hx
        rw [hl _ _ hx (by simp)]
        exact hv
      · cases hv
    · exact hv.elim
  · split at hv
    · exact hv
    · split at hv
      · rename_i hx
        rw [hl _ _ hx (by simp)]
        exact hv
      · cases hv
    · exact hv.elim
  · split at hv
    · exact hv
    · exact valX_mono hl hv
  · split at hv
    · split at hv
      · exact hv
      · exact valX_mono hl hv
    · exact valX_mono hl hv
  · split at hv
    · split at hv
      · exact hv
      · split at hv
        · rename_i h1 h2
          rw [lenC_mono hl h2, h1]
          exact hv
        · cases hv
      · cases hv
    · cases hv
  · exact valX_mono hl hv

theorem effX_unt {o : Oper} {v : AT} {H' : List Ob} (hv : (effX tb o.op D H).has (v, H')) : Unt (touch O o D H) H H' := by
  have push : ∀ x : Ob, Unt (touch O o D H) H (H ++ [x]) := fun x id y hy _ => app_get hy
  unfold effX at hv
  split at hv
  · split at hv
    · cases hv; exact push _
    · cases hv
  · rename_i args tys ho
    split at hv
    · rename_i x y t tx ha ht
      split at hv
      · split at hv
        · obtain ⟨_, _, e⟩ := hv; cases e; exact push _
        · cases hv
      · rename_i id s h1 h2 h3
        split at hv
        · obtain ⟨_, _, e⟩ := hv
          cases e
          intro j z hz hn
          simp only [touch, ho, ha, h2] at hn
          exact app_get (by rw [List.getElem?_set_ne (fun e => hn (by simp [e]))]; exact hz)
        · cases hv
      · split at hv
        · obtain ⟨_, _, e⟩ := hv; cases e; exact push _
        · cases hv
      · cases hv
    · cases hv
  · cases hv
theorem opX_unt {o : Oper} {H' : List Ob} (hv : (opX tb o.op D H).has H') : Unt (touch O o D H) H H' := by
  unfold opX at hv
  split at hv
  · rename_i t m k x ho
    split at hv
    · rename_i T id s vs h1 h2 h3 h4
      have set : ∀ {z : Ob}, Unt (touch O o D H) H (H.set id z) := fun {z} j w hw hn => by
        rw [List.getElem?_set_ne (fun e => hn (by simp [touch, ho, h2, e]))]; exact hw
      split at hv
      · split at hv
        · split at hv
          · cases hv; exact set
          · cases hv
        · split at hv
          · cases hv
          · cases hv; exact set
        · cases hv
      · cases hv
    · cases hv
  · cases hv
theorem effD_unt {o : Oper} {v : AT} {H' : List Ob} (hv : (effD tb o D H).has (v, H')) : Unt (touch O o D H) H H' := by
  have push : ∀ x : Ob, Unt (touch O o D H) H (H ++ [x]) := fun x id y hy _ => app_get hy
  unfold effD at hv
  split at hv
  · split at hv
    · cases hv; exact push _
    · cases hv
  · split at hv
    · cases hv; exact push _
    · cases hv
  · split at hv
    · split at hv
      · split at hv
        · cases hv; exact push _
        · cases hv
      · cases hv
    · cases hv
  · split at hv
    · split at hv
      · obtain ⟨_, _, e⟩ := hv; cases e; exact push _
      · cases hv
    · cases hv
  · rename_i args tys ho
    split at hv
    · rename_i x y t tx ha ht
      split at hv
      · rename_i T U cx cy h1 h2 h3 h4
        split at hv
        · split at hv
          · rename_i id
            split at hv
            · split at hv
              · obtain ⟨_, _, e⟩ := hv
                cases e
                intro j z hz hn
                simp only [touch, ho, ha, h3] at hn
                exact app_get (by rw [List.getElem?_set_ne (fun e => hn (by simp [e]))]; exact hz)
              · cases hv
            · cases hv
          · obtain ⟨_, _, e⟩ := hv; cases e; exact push _
          · exact effX_unt hv
        · cases hv
      · exact effX_unt hv
    · cases hv
  · exact effX_unt hv
theorem opN_unt {o : Oper} {H' : List Ob} (hv : (opN tb o D H).has H') : Unt (touch O o D H) H H' := by
  unfold opN at hv
  split at hv
  · rename_i t x y ho
    have set : ∀ {id : Nat} {z : Ob}, (∀ j, j ∉ touch O o D H → j ≠ id) → Unt (touch O o D H) H (H.set id z) := fun hne j w hw hn => by
      rw [List.getElem?_set_ne (fun e => hne j hn e.symm)]; exact hw
    split at hv
    · rename_i h2 h3
      split at hv
      · split at hv
        · cases hv
          exact set fun j hj e => hj (by simp [touch, ho, h2, e])
        · cases hv
      · cases hv
    · rename_i ti id k n T e0 off vs h1 h2 h3
      have hs : ∀ {z : Ob}, Unt (touch O o D H) H (H.set id z) := fun {z} => set (z := z) fun j hj e => hj (by simp only [touch, ho, h2]; simp [e])
      split at hv
      · split at hv
        · split at hv
          · split at hv
            · split at hv
              · split at hv
                · cases hv; exact hs
                · cases hv
              · obtain ⟨e', e1, e2⟩ := hv
                dsimp only at e2
                split at e2
                · cases e2; exact hs
                · cases e2
            · cases hv
          · cases hv
        · cases hv
      · cases hv
    · cases hv
  · exact opX_unt hv

theorem one_ok (htb : TBOK P tb) (hO : OrcOK P O) {nt : Nat} (hE : E.n = nt) {o : Oper} {K : AT → List Ob → Option R} {r : R} (hc : one tb O nt o D H K = some r) : ∃ v H', K v H' = some r ∧ OpOK P o E F D H v H' ∧ Unt (touch O o D H) H H' := by
  unfold one at hc
  split at hc
  · rename_i d hd
    split at hc
    · rename_i hlt
      have hn : d < E.n := by rw [hE]; simpa [Nat.blt_eq] using hlt
      unfold opD at hc
      split at hc
      · obtain ⟨v, h1, h2⟩ := Pl.run_has hc
        exact ⟨v, H, h2, val_op fun ρ L h hs hp => valD_ok htb hd hn h1 hs hp, .refl _ _⟩
      · obtain ⟨q, h1, h2⟩ := Pl.run_has hc
        exact ⟨q.1, q.2, h2, effD_ok htb hd hn h1, effD_unt h1⟩
      · exact callD_ok hO hd hn hc
    · cases hc
  · rename_i hd
    obtain ⟨H', h1, h2⟩ := Pl.run_has hc
    exact ⟨_, H', h2, opN_ok htb hd h1, opN_unt h1⟩
theorem oneK_ok (htb : TBOK P tb) (hO : OrcOK P O) {nt : Nat} (hE : E.n = nt) {o : Oper} (hk : keeps O o D = true) {K : AT → List Ob → Option R} {r : R} (hc : one tb O nt o D H K = some r) : ∃ v, K v H = some r ∧ ∀ H', Le H H' → OpOK P o E F D H' v H' := by
  unfold one at hc
  split at hc
  · rename_i d hd
    split at hc
    · rename_i hlt
      have hn : d < E.n := by rw [hE]; simpa [Nat.blt_eq] using hlt
      unfold opD at hc
      split at hc
      · obtain ⟨v, h1, h2⟩ := Pl.run_has hc
        exact ⟨v, h2, fun H' hl => val_op fun ρ L h hs hp => valD_ok htb hd hn (valD_mono hl h1) hs hp⟩
      · rename_i h1
        exfalso
        unfold keeps at hk
        rw [hd] at hk
        simp only at hk
        split at hk
        · rename_i e; rw [e] at h1; simp [kind] at h1
        · rw [h1] at hk; cases hk
      · exact callK_ok hO hd hn hk hc
    · cases hc
  · rename_i hd
    unfold keeps at hk
    rw [hd] at hk
    cases hk
theorem oneI_ok (htb : TBOK P tb) {nt : Nat} (hE : E.n = nt) {o : Oper} {K : AT → Option R} {r : R} (hc : oneI tb nt o D K = some r) : ∃ v, K v = some r ∧ ∀ H, OpOK P o E F D H v H := by
  unfold oneI at hc
  split at hc
  · rename_i d hd
    split at hc
    · rename_i hlt
      have hn : d < E.n := by rw [hE]; simpa [Nat.blt_eq] using hlt
      obtain ⟨v, h1, h2⟩ := Pl.run_has hc
      exact ⟨v, h2, fun H => immD_ok htb hd hn h1⟩
    · cases hc
  · cases hc

theorem bindA_enc {dst : Option Nat} {v : AT} {av : AV} (hs : EncL ρ H D L) (hv : ATR ρ H v av) : EncL ρ H (bindA dst v D) (Abs.bindD dst av L) := by
  cases dst with
  | none => exact hs
  | some d =>
    intro t x hx
    simp only [bindA, List.lookup_cons] at hx
    simp only [Abs.bindD, List.lookup_cons]
    split at hx
    · cases hx; exact ⟨av, rfl, hv⟩
    · exact hs t x hx
theorem gsl_slot {l : List Oper} {j : Nat} : gsl l j = Abs.gslot l.toArray j := by
  unfold gsl Abs.gslot
  simp only [List.getElem?_toArray]
  cases l[j]? <;> rfl
theorem enc_b {d : Nat} {p : Bool} (hs : EncL ρ H D L) (h : D.lookup d = some (.one (.b p))) : L.lookup d = some (.one (.lit (.bool p))) := by
  obtain ⟨av, h1, h2⟩ := hs d _ h
  obtain ⟨u, rfl, h3⟩ := h2.one'
  rw [h1, h3.bool]
theorem enc_u {d : Nat} (hs : EncL ρ H D L) (h : D.lookup d = some (.tup [])) : L.lookup d = some (.tup []) := by
  obtain ⟨av, h1, h2⟩ := hs d _ h
  cases h2 with
  | @tup xs ys hl hr =>
    cases ys with
    | nil => exact h1
    | cons _ _ => simp at hl

/-- A guard says: run, or skip. -/
inductive Gd (ops : Array Oper) (n : Nat) (o : Oper) (D : List (Nat × AT)) : Bool → Prop
  | run (h : o.guard = none) : Gd ops n o D true
  | runG {j d : Nat} {want : Bool} (h : o.guard = some (j, want)) (hj : Abs.gslot ops j = some d) (hd : D.lookup d = some (.one (.b want))) : Gd ops n o D true
  | skip {j d d' : Nat} {p want : Bool} (h : o.guard = some (j, want)) (hj : Abs.gslot ops j = some d) (hd : D.lookup d = some (.one (.b p))) (hp : p = !want) (hdst : o.dst = some d') (hn : d' < n) : Gd ops n o D false
  | skipU {j d d' : Nat} {want : Bool} (h : o.guard = some (j, want)) (hj : Abs.gslot ops j = some d) (hd : D.lookup d = some (.tup [])) (hdst : o.dst = some d') (hn : d' < n) : Gd ops n o D false
/-- The same slots. -/
def Same (D D' : List (Nat × AT)) : Prop := ∀ t, D.lookup t = D'.lookup t
theorem Same.refl (D : List (Nat × AT)) : Same D D := fun _ => rfl
theorem Same.symm {D D' : List (Nat × AT)} (h : Same D D') : Same D' D := fun t => (h t).symm
theorem Same.trans {D D' D2 : List (Nat × AT)} (h : Same D D') (k : Same D' D2) : Same D D2 := fun t => (h t).trans (k t)
theorem Same.enc {D D' : List (Nat × AT)} (h : Same D' D) (k : EncL ρ H D L) : EncL ρ H D' L := fun t v hv => k t v (by rw [← h t]; exact hv)
theorem same_cons {d : Nat} {v : AT} {D : List (Nat × AT)} (h : D.lookup d = some v) : Same ((d, v) :: D) D := fun t => by
  rw [List.lookup_cons]
  split
  · rename_i e; have := eq_of_beq e; subst this; exact h.symm
  · rfl
theorem Same.bind {D D' : List (Nat × AT)} (h : Same D D') (dst : Option Nat) (v : AT) : Same (bindA dst v D) (bindA dst v D') := by
  cases dst with
  | none => exact h
  | some d => intro t; simp only [bindA, List.lookup_cons]; split <;> first | rfl | exact h t
theorem Same.sel {D D' : List (Nat × AT)} (h : Same D D') : ∀ ts, Draw.sel D ts = Draw.sel D' ts
  | [] => rfl
  | t :: ts => by simp only [Draw.sel]; rw [h t, Same.sel h ts]
theorem guardK_ok {nt : Nat} {l : List Oper} {o : Oper} {D1 D : List (Nat × AT)} (hsub : Draw.Sub D1 D) {run skip : List (Nat × AT) → Option R} {r : R} (hc : guardK nt l o D1 D run skip = some r) : ∃ D', Same D' D ∧ ((Gd l.toArray nt o D1 true ∧ run D' = some r) ∨ (Gd l.toArray nt o D1 false ∧ skip D' = some r)) := by
  unfold guardK at hc
  split at hc
  · rename_i hg; exact ⟨D, .refl D, .inl ⟨.run hg, hc⟩⟩
  · rename_i j want hg
    split at hc
    · rename_i d d' hj hdst
      rw [gsl_slot] at hj
      split at hc
      · rename_i hlt
        have hn : d' < nt := by simpa [Nat.blt_eq] using hlt
        split at hc
        · rename_i p hd
          cases want <;> cases p
          · exact ⟨_, same_cons (hsub _ _ hd), .inl ⟨.runG hg hj hd, hc⟩⟩
          · exact ⟨_, same_cons (hsub _ _ hd), .inr ⟨.skip hg hj hd rfl hdst hn, hc⟩⟩
          · exact ⟨_, same_cons (hsub _ _ hd), .inr ⟨.skip hg hj hd rfl hdst hn, hc⟩⟩
          · exact ⟨_, same_cons (hsub _ _ hd), .inl ⟨.runG hg hj hd, hc⟩⟩
        · rename_i hd; exact ⟨D, .refl D, .inr ⟨.skipU hg hj hd hdst hn, hc⟩⟩
        · cases hc
      · cases hc
    · cases hc

theorem opsD_ok (htb : TBOK P tb) (hO : OrcOK P O) {nt : Nat} (hE : E.n = nt) {ops : List Oper} {K : St → Option R} {r : R} : ∀ {rest : List Oper} {st : St} {ρ : Rho} {L : Env} {h : Heap}, opsD tb O nt ops rest st K = some r → SR F ρ st L h → ao P ops.toArray rest E (fun L2 h2 => ∃ ρ' st', K st' = some r ∧ SR F ρ' st' L2 h2) L h
  | [], st, ρ, L, h, hc, hs => Abs.ao_nil ⟨ρ, st, hc, hs⟩
  | o :: rest, st, ρ, L, h, hc, hs => by
    unfold opsD at hc
    obtain ⟨L2, h2, sh, hs2⟩ := fzIds_ok (ids := prepIds O o st.L) hs
    refine Abs.ao_shift sh ?_
    clear hs sh L h
    obtain ⟨st1, e1⟩ : ∃ st1, st1 = fzIds (prepIds O o st.L) st := ⟨_, rfl⟩
    rw [← e1] at hs2
    simp only [prep, ← e1] at hc
    obtain ⟨D', hsame, hcase⟩ := guardK_ok (fun _ _ h => h) hc
    have hse := hsame.enc hs2.slots
    rcases hcase with ⟨g, k⟩ | ⟨g, k⟩
    · have run : ar P o E (ao P ops.toArray rest E (fun L2 h2 => ∃ ρ' st', K st' = some r ∧ SR F ρ' st' L2 h2)) L2 h2 := by
        obtain ⟨v, H', k1, k2, _⟩ := one_ok (F := F) htb hO hE k
        refine ar_mono (k2 ρ L2 h2 hse hs2.heap hs2.fr) ?_
        rintro L3 h3 ⟨ρ', av, rfl, m1, m2, m3, m4⟩
        exact opsD_ok htb hO hE k1 ⟨bindA_enc (hse.mono m3) m1, m2, m4⟩
      cases g with
      | run hg => exact Abs.ao_step hg run
      | runG hg hj hd => exact Abs.ao_run hg hj (enc_b hs2.slots hd) rfl run
    · have skip : ∀ {d'}, o.dst = some d' → ao P ops.toArray rest E (fun L2 h2 => ∃ ρ' st', K st' = some r ∧ SR F ρ' st' L2 h2) ((d', .tup []) :: L2) h2 := fun {d'} hdst => by
        have := bindA_enc (dst := o.dst) hse (unit_ok (ρ := ρ) (H := st1.H))
        rw [hdst] at this k
        exact opsD_ok htb hO hE k ⟨this, hs2.heap, hs2.fr⟩
      cases g with
      | skip hg hj hd hp hdst hn => exact Abs.ao_skip hg hj (enc_b hs2.slots hd) hp hdst (by rw [hE]; exact hn) (skip hdst)
      | skipU hg hj hd hdst hn => exact Abs.ao_skipU hg hj (enc_u hs2.slots hd) hdst (by rw [hE]; exact hn) (skip hdst)
end
end Go.Proofs.YtagnfckihdlhpaaDoor.Den

/-
  den is right: regions that draw their order, loops, and all code.
-/
namespace Go.Proofs.YtagnfckihdlhpaaDoor.Den
open Go.RowKit
open Abs (V AV Env Heap ar aw ao)

section
variable {P : Program} {E : Abs.Cx} {F : In} {ρ ρ' : Rho} {H : List Ob} {D : List (Nat × AT)} {L : Env} {h h' : Heap} {R : Type} {tb : Nat → Option TI} {O : Orc}

theorem bindA_eq (dst : Option Nat) (v : AT) (L : List (Nat × AT)) : bindA dst v L = Draw.bindD dst v L := by cases dst <;> rfl

theorem EncL.sub {D' : List (Nat × AT)} (h : EncL ρ H D L) (hs : Draw.Sub D' D) : EncL ρ H D' L := fun t v hv => h t v (hs t v hv)

def sys (P : Program) (E : Abs.Cx) (F : In) (ops : Array Oper) (Hm : List Ob) : Draw.Sys P ops AT (List Ob) where
  Rel := fun D H a w => Le Hm H ∧ ∃ ρ L h ι I, SR F ρ ⟨D, H⟩ L h ∧ Abs.Rel E L h ι I a w
  OT := fun o D v H H' => Le Hm H → Le Hm H' ∧ ((Gd ops E.n o D true ∧ OpOK P o E F D H v H') ∨ (Gd ops E.n o D false ∧ v = .tup [] ∧ H' = H))
  weaken := fun ⟨hle, ρ, L, h, ι, I, hs, r⟩ k => ⟨hle, ρ, L, h, ι, I, ⟨hs.slots.sub k, hs.heap, hs.fr⟩, r⟩
  same := fun ⟨hle, ρ, L, h, ι, I, hs, r⟩ e1 e2 e3 e4 => ⟨hle, ρ, L, h, ι, I, hs, r.same e1 e2 e3 e4⟩
  sound := fun {o D Dg v H H' i a w Q K} ht hsub ho ⟨hle, ρ, L, h, ι, I, hs, r⟩ hk => by
    unfold wpOp
    rw [ho]
    simp only []
    obtain ⟨hle', ht⟩ := ht hle
    rcases ht with ⟨g, hop⟩ | ⟨g, rfl, rfl⟩
    · have hw : Region.wanted o (yielded ops a.tmps) = true := by
        cases g with
        | run hg => simp [Region.wanted, hg]
        | runG hg hj hd =>
          have hy := r.yields (ops := ops) hj (enc_b hs.slots (hsub _ _ hd))
          simp [Region.wanted, hg, hy]
      rw [if_pos hw]
      refine .inl (Abs.wp_mono2 ?_ (fun _ _ _ f => f.elim) ((hop ρ L h (hs.slots.sub hsub) hs.heap hs.fr).get [] ι I a w (by rw [List.append_nil]; exact r)))
      rintro a' w' ⟨L', h2, ι', I', ⟨ρ', av, rfl, m1, m2, m3, m4⟩, r'⟩
      refine hk a' w' ⟨hle', ρ', _, h2, ι', I', ⟨?_, m2, m4⟩, r'.low⟩
      show EncL ρ' _ (Draw.bindD o.dst v Dg) _
      rw [← bindA_eq]
      exact bindA_enc (hs.slots.mono m3) m1
    · have fin : ∀ {d'}, o.dst = some d' → d' < E.n → K (a.put (some d') undef) w := fun {d'} hdst hn => by
        refine hk _ _ ⟨hle, ρ, _, h, ι, I, ⟨?_, hs.heap, hs.fr⟩, r.put hn Abs.AR.none_⟩
        show EncL ρ _ (Draw.bindD o.dst _ Dg) _
        rw [← bindA_eq, hdst]
        exact bindA_enc (dst := some d') hs.slots unit_ok
      cases g with
      | skip hg hj hd hp hdst hn =>
        have hy := r.yields (ops := ops) hj (enc_b hs.slots (hsub _ _ hd))
        rw [if_neg (by simp [Region.wanted, hg, hy, hp]), hdst]
        exact fin hdst hn
      | skipU hg hj hd hdst hn =>
        have hy := r.yieldsU (ops := ops) hj (enc_u hs.slots (hsub _ _ hd))
        rw [if_neg (by simp [Region.wanted, hg, hy]), hdst]
        exact fin hdst hn

theorem range'_cons (i n : Nat) : List.range' i (n + 1) = i :: List.range' (i + 1) n := by rw [List.range'_succ]

theorem dr_same {ops : Array Oper} {S : Draw.Sys P ops AT (List Ob)} {ch rd π σ : List Nat} {D Df : List (Nat × AT)} {hs hf : List (List Ob)} (d : Draw.DR S ch rd π σ D hs Df hf) : ∀ {D' : List (Nat × AT)}, Same D D' → ∃ Df', Draw.DR S ch rd π σ D' hs Df' hf ∧ Same Df Df' := by
  induction d with
  | nil L hs => exact fun h => ⟨_, .nil _ _, h⟩
  | pure ho hc ht _ ih =>
    intro D' h
    have hb := h.bind
    simp only [bindA_eq] at hb
    obtain ⟨Df', k1, k2⟩ := ih (hb _ _)
    exact ⟨Df', .pure ho hc (by rw [← h.sel]; exact ht) k1, k2⟩
  | read ho hc hr ht _ ih =>
    intro D' h
    have hb := h.bind
    simp only [bindA_eq] at hb
    obtain ⟨Df', k1, k2⟩ := ih (hb _ _)
    exact ⟨Df', .read ho hc hr (by rw [← h.sel]; exact ht) k1, k2⟩
  | chain ho hc ht _ ih =>
    intro D' h
    have hb := h.bind
    simp only [bindA_eq] at hb
    obtain ⟨Df', k1, k2⟩ := ih (hb _ _)
    exact ⟨Df', .chain ho hc (by rw [← h.sel]; exact ht) k1, k2⟩

theorem drawD_ok (htb : TBOK P tb) (hO : OrcOK P O) {nt : Nat} (hE : E.n = nt) {ops : Array Oper} {Hm : List Ob} {π ch rd : List Nat} {K : List (Nat × AT) → List Ob → Option R} {r : R} : ∀ {rest done : List Nat} {D : List (Nat × AT)} {Hd H : List Ob} {hs : List (List Ob)}, drawD tb O nt ops Hm π ch rd done rest D Hd H K = some r → hs.length = Abs.cnt ch done → (∀ h ∈ H :: hs, Le Hd h) →
    ∃ Df Hl hl Df', Draw.DR (sys P E F ops Hm) ch rd π rest D (H :: hs) Df' (Hl :: hl) ∧ Same Df Df' ∧ K Df Hl = some r
  | [], done, D, Hd, H, hs, hc, _, _ => ⟨D, H, hs, D, .nil _ _, .refl _, hc⟩
  | i :: rest, done, D, Hd, H, hs, hc, hl, hle => by
    unfold drawD at hc
    split at hc
    · cases hc
    rename_i o ho
    have hcnt : Abs.cnt ch (i :: done) = Abs.cnt ch done + (if ch.contains i then 1 else 0) := by
      unfold Abs.cnt
      rw [List.countP_cons]
    have hsub : Draw.Sub (Draw.sel D (o.looksAt ops)) D := Draw.sel_sub fun _ _ => rfl
    simp only at hc
    split at hc
    · rename_i hch
      have hcnt' : (H :: hs).length = Abs.cnt ch (i :: done) := by rw [hcnt, if_pos hch, List.length_cons, hl]
      have go : ∀ {v : AT} {Hd' H' : List Ob} {D' : List (Nat × AT)}, Same D' D → (sys P E F ops Hm).OT o (Draw.sel D (o.looksAt ops)) v H H' → Le Hd' Hd → Le Hd' H' → drawD tb O nt ops Hm π ch rd (i :: done) rest (bindA o.dst v D') Hd' H' K = some r →
          ∃ Df Hl hl Df', Draw.DR (sys P E F ops Hm) ch rd π (i :: rest) D (H :: hs) Df' (Hl :: hl) ∧ Same Df Df' ∧ K Df Hl = some r := fun {v Hd' H' D'} hsm ht hd1 hd2 hc => by
        obtain ⟨Df, Hl, hl', Df', k1, k3, k2⟩ := drawD_ok htb hO hE (hs := H :: hs) hc hcnt' (fun h hm => by
          rcases List.mem_cons.1 hm with rfl | hm
          · exact hd2
          · exact hd1.trans (hle h hm))
        obtain ⟨Df2, m1, m2⟩ := dr_same k1 (hsm.bind o.dst v)
        rw [bindA_eq] at m1
        exact ⟨Df, Hl, hl', Df2, .chain ho hch ht m1, k3.trans m2, k2⟩
      obtain ⟨D', hsm, ⟨g, k⟩ | ⟨g, k⟩⟩ := guardK_ok hsub hc
      · split at k
        · rename_i htc
          obtain ⟨v, H', k1, k2, k4⟩ := one_ok (F := F) (E := E) htb hO hE k
          exact go hsm (fun hle => ⟨hle.unt k4 htc, .inl ⟨by rw [hE]; simpa using g, k2⟩⟩) (hideH_le _ _) ((hle H (by simp)).hide k4) k1
        · cases k
      · exact go hsm (fun hle => ⟨hle, .inr ⟨by rw [hE]; simpa using g, rfl, rfl⟩⟩) (.refl _) (hle H (by simp)) k
    · rename_i hch
      have hch' : ch.contains i = false := by simpa using hch
      have hcnt' : hs.length = Abs.cnt ch (i :: done) := by rw [hcnt, if_neg hch]; exact hl
      split at hc
      · rename_i hrd
        have go : ∀ {v : AT} {D' : List (Nat × AT)}, Same D' D → (∀ H2 ∈ (H :: hs).take ((H :: hs).length - Abs.cnt ch (π.filter fun j => Abs.isBef ops j i)), (sys P E F ops Hm).OT o (Draw.sel D (o.looksAt ops)) v H2 H2) → drawD tb O nt ops Hm π ch rd (i :: done) rest (bindA o.dst v D') Hd H K = some r →
            ∃ Df Hl hl Df', Draw.DR (sys P E F ops Hm) ch rd π (i :: rest) D (H :: hs) Df' (Hl :: hl) ∧ Same Df Df' ∧ K Df Hl = some r := fun {v D'} hsm ht hc => by
          obtain ⟨Df, Hl, hl', Df', k1, k3, k2⟩ := drawD_ok htb hO hE (hs := hs) hc hcnt' hle
          obtain ⟨Df2, m1, m2⟩ := dr_same k1 (hsm.bind o.dst v)
          rw [bindA_eq] at m1
          exact ⟨Df, Hl, hl', Df2, .read ho hch' hrd ht m1, k3.trans m2, k2⟩
        obtain ⟨D', hsm, ⟨g, k⟩ | ⟨g, k⟩⟩ := guardK_ok hsub hc
        · split at k
          · obtain ⟨v, k1, k2⟩ := oneI_ok (F := F) (E := E) htb hE k
            exact go hsm (fun H2 _ hle => ⟨hle, .inl ⟨by rw [hE]; simpa using g, k2 H2⟩⟩) k1
          · split at k
            · rename_i hkp
              obtain ⟨v, k1, k2⟩ := oneK_ok (F := F) (E := E) htb hO hE hkp k
              refine go hsm (fun H2 hm hle2 => ⟨hle2, .inl ⟨by rw [hE]; simpa using g, k2 H2 ?_⟩⟩) k1
              split
              · rename_i hb
                have hb := Nat.le_of_ble_eq_true hb
                have hk : (H :: hs).length - Abs.cnt ch (π.filter fun j => Abs.isBef ops j i) ≤ 1 := by rw [List.length_cons]; omega
                have : H2 = H := by
                  have h2 : H2 ∈ (H :: hs).take 1 := by
                    have e : (H :: hs).take ((H :: hs).length - Abs.cnt ch (π.filter fun j => Abs.isBef ops j i)) = ((H :: hs).take 1).take ((H :: hs).length - Abs.cnt ch (π.filter fun j => Abs.isBef ops j i)) := by rw [List.take_take, Nat.min_eq_left hk]
                    rw [e] at hm
                    exact List.mem_of_mem_take hm
                  simpa using h2
                rw [this]
                exact .refl H
              · exact hle H2 (List.mem_of_mem_take hm)
            · cases k
        · exact go hsm (fun H2 _ hle => ⟨hle, .inr ⟨by rw [hE]; simpa using g, rfl, rfl⟩⟩) k
      · have go : ∀ {v : AT} {D' : List (Nat × AT)}, Same D' D → (∀ H, (sys P E F ops Hm).OT o (Draw.sel D (o.looksAt ops)) v H H) → drawD tb O nt ops Hm π ch rd (i :: done) rest (bindA o.dst v D') Hd H K = some r →
            ∃ Df Hl hl Df', Draw.DR (sys P E F ops Hm) ch rd π (i :: rest) D (H :: hs) Df' (Hl :: hl) ∧ Same Df Df' ∧ K Df Hl = some r := fun {v D'} hsm ht hc => by
          obtain ⟨Df, Hl, hl', Df', k1, k3, k2⟩ := drawD_ok htb hO hE (hs := hs) hc hcnt' hle
          obtain ⟨Df2, m1, m2⟩ := dr_same k1 (hsm.bind o.dst v)
          rw [bindA_eq] at m1
          exact ⟨Df, Hl, hl', Df2, .pure ho hch' ht m1, k3.trans m2, k2⟩
        obtain ⟨D', hsm, ⟨g, k⟩ | ⟨g, k⟩⟩ := guardK_ok hsub hc
        · split at k
          · obtain ⟨v, k1, k2⟩ := oneI_ok (F := F) (E := E) htb hE k
            exact go hsm (fun H hle => ⟨hle, .inl ⟨by rw [hE]; simpa using g, k2 H⟩⟩) k1
          · split at k
            · rename_i hkp
              obtain ⟨v, k1, k2⟩ := oneK_ok (F := F) (E := E) (H := Hm) htb hO hE hkp k
              exact go hsm (fun H hle => ⟨hle, .inl ⟨by rw [hE]; simpa using g, k2 H hle⟩⟩) k1
            · cases k
        · exact go hsm (fun H hle => ⟨hle, .inr ⟨by rw [hE]; simpa using g, rfl, rfl⟩⟩) k

/-- What den asks of the code behind it. -/
def Goes (F : In) (K : Kt R) (r : R) : Exit → Env → Heap → Prop := fun e L h => ∃ ρ' st', K e st' = some r ∧ SR F ρ' st' L h

/-- A piece of code whose meaning is given. -/
def PieceOK (P : Program) (an : Ann) (c : Code) (f : (R : Type) → St → Kt R → Option R) : Prop := ∀ (R : Type) (E : Abs.Cx) (F : In), E.n = an.nt → F.ok an.refs → ∀ (st : St) (K : Kt R) (r : R) (ρ : Rho) (L : Env) (h : Heap), f R st K = some r → SR F ρ st L h → aw P c E (Goes F K r) L h
def AllP (P : Program) (an : Ann) (pc : Pcs) : List (Nat × Nat × Code) → Prop
  | [] => True
  | p :: l => PieceOK P an p.2.2 (fun R => pc.at_ p.1 R p.2.1) ∧ AllP P an pc l
theorem AllP.app {an : Ann} {pc : Pcs} : ∀ {a b : List (Nat × Nat × Code)}, AllP P an pc (a ++ b) → AllP P an pc a ∧ AllP P an pc b
  | [], _, h => ⟨trivial, h⟩
  | _ :: _, _, h => let ⟨h1, h2⟩ := AllP.app h.2; ⟨⟨h.1, h1⟩, h2⟩

theorem known_ok {c : Operand} {b : Bool} {st : St} (hs : SR F ρ st L h) (hx : ev st.L c = some (.one (.b b))) : SR F ρ (known c b st) L h := by
  cases c with
  | tmp t => exact ⟨Same.enc (same_cons hx) hs.slots, hs.heap, hs.fr⟩
  | _ => exact hs
theorem den_ok (hm : P.follows .mixedOrders = true) (htb : TBOK P tb) (hO : OrcOK P O) {an : Ann} {pc : Pcs} (hE : E.n = an.nt) (hF : F.ok an.refs) : ∀ {c : Code} {st : St} {K : Kt R} {r : R} {ρ : Rho} {L : Env} {h : Heap}, AllP P an pc (pieces an c) → den tb O pc an c st K = some r → SR F ρ st L h → aw P c E (Goes F K r) L h
  | .skip, st, K, r, ρ, L, h, _, hc, hs => Abs.aw_skip ⟨ρ, st, hc, hs⟩
  | .ret, st, K, r, ρ, L, h, _, hc, hs => Abs.aw_ret ⟨ρ, st, hc, hs⟩
  | .exit id, st, K, r, ρ, L, h, _, hc, hs => Abs.aw_exit ⟨ρ, st, hc, hs⟩
  | .seq a b, st, K, r, ρ, L, h, hP, hc, hs => by
    unfold pieces at hP
    obtain ⟨hP1, hP2⟩ := hP.app
    refine Abs.aw_seq (Abs.aw_mono ?_ (den_ok hm htb hO hE hF (c := a) hP1 hc hs))
    rintro e L h ⟨ρ', st', k1, k2⟩
    cases e with
    | normal =>
      simp only [thenK] at k1
      simp only [Abs.thenQ]
      split at hP2
      · rename_i lv hl
        rw [hl] at k1
        obtain ⟨ρ2, st2, m1, m2⟩ := restrict_ok hF k2 k1
        exact hP2.1 R E F hE hF _ _ _ _ _ _ m1 m2
      · rename_i hl
        rw [hl] at k1
        exact den_ok hm htb hO hE hF (c := b) hP2 k1 k2
    | _ => exact ⟨ρ', st', k1, k2⟩
  | .block id a, st, K, r, ρ, L, h, hP, hc, hs => by
    refine Abs.aw_block (Abs.aw_mono ?_ (den_ok hm htb hO hE hF (c := a) hP hc hs))
    rintro e L h ⟨ρ', st', k1, k2⟩
    cases e with
    | exit id' =>
      simp only [blockK] at k1
      simp only [Abs.blockQ]
      by_cases hid : id' = id
      · subst hid
        rw [if_pos (Nat.beq_refl id')] at k1
        rw [if_pos rfl]
        exact ⟨ρ', st', k1, k2⟩
      · rw [if_neg (fun hb => hid (Nat.eq_of_beq_eq_true hb))] at k1
        rw [if_neg hid]
        exact ⟨ρ', st', k1, k2⟩
    | _ => exact ⟨ρ', st', k1, k2⟩
  | .cond x a b, st, K, r, ρ, L, h, hP, hc, hs => by
    unfold pieces at hP
    obtain ⟨hP1, hP2⟩ := hP.app
    unfold den at hc
    split at hc
    · rename_i p hx
      obtain ⟨av, h1, h2⟩ := ev_ok hs.slots hx
      obtain ⟨u, rfl, h3⟩ := h2.one'
      rw [h3.bool] at h1
      refine Abs.aw_cond h1 (fun e => ?_) (fun e => ?_)
      · subst e
        have hs := known_ok hs hx
        simp only [cond_true] at hc
        split at hP1
        · rename_i lv hl
          rw [hl] at hc
          obtain ⟨ρ2, st2, m1, m2⟩ := restrict_ok hF hs hc
          exact hP1.1 R E F hE hF _ _ _ _ _ _ m1 m2
        · rename_i hl
          rw [hl] at hc
          exact den_ok hm htb hO hE hF (c := a) hP1 hc hs
      · subst e
        have hs := known_ok hs hx
        simp only [cond_false] at hc
        split at hP2
        · rename_i lv hl
          rw [hl] at hc
          obtain ⟨ρ2, st2, m1, m2⟩ := restrict_ok hF hs hc
          exact hP2.1 R E F hE hF _ _ _ _ _ _ m1 m2
        · rename_i hl
          rw [hl] at hc
          exact den_ok hm htb hO hE hF (c := b) hP2 hc hs
    · cases hc
  | .loop a, st, K, r, ρ, L, h, hP, hc, hs => by
    unfold den at hc
    split at hc
    · obtain ⟨ρ1, st1, k1, k2⟩ := restrict_ok hF hs hc
      exact hP.1 R E F hE hF _ _ _ _ _ _ k1 k2
    · cases hc
  | .region id ⟨ops⟩ false, st, K, r, ρ, L, h, _, hc, hs => Abs.aw_region (opsD_ok htb hO hE hc hs)
  | .region id ops true, st, K, r, ρ, L, h, hP, hc, hs => by
    unfold pieces at hP
    unfold den at hc
    split at hc
    · rename_i d hpl
      rw [hpl] at hP
      simp only at hP
      split at hc
      · cases hc
      · rename_i π ch rd ho
        split at hc
        · rename_i hp
          obtain ⟨L2, h2, sh, hs2⟩ := fzIds_ok (ids := slotRows st.L st.H d.fz) hs
          simp only at hc
          refine Abs.aw_shift sh ?_
          obtain ⟨Df, Hl, hl, Df', k1, k3, k2⟩ := drawD_ok (F := F) (E := E) htb hO hE (hs := []) hc rfl (fun h hm => by simp at hm; subst hm; exact .refl _)
          refine ⟨fun ι I a w rel => ?_⟩
          refine Draw.draw (S := sys P E F ops (maskH d.vis (fzIds (slotRows st.L st.H d.fz) st).H)) hm π ch rd hp k1 (fun a w ⟨_, ρ', L', h', ι', I', q1, q2⟩ => ⟨L', h', ι', I', ⟨ρ', ⟨Df, Hl⟩, k2, ⟨k3.enc q1.slots, q1.heap, q1.fr⟩⟩, q2⟩) ⟨maskH_le _ _, ρ, L2, h2, ι, I, hs2, rel⟩
        · cases hc
      · rename_i x y l ho
        rw [ho] at hP
        obtain ⟨ρ1, st1, k1, k2⟩ := restrict_ok hF hs hc
        exact hP.1 R E F hE hF _ _ _ _ _ _ k1 k2
    · cases hc

/-- A region with several orders: in each it does the same. -/
theorem draw_piece (hm : P.follows .mixedOrders = true) (htb : TBOK P tb) (hO : OrcOK P O) {an : Ann} {ops : Array Oper} {id : Nat} {o : Outs} {d : Dw} (hp : Abs.plansOK ops d.cs d.orders = true) {f : (R : Type) → St → Kt R → Option R}
    (hf : ∀ p ∈ d.orders, ∀ (R : Type) (st : St) (K : Kt R) (r : R), f R st K = some r → (fun st1 : St => drawD tb O an.nt ops (maskH d.vis st1.H) p.1 p.2.1 p.2.2 [] p.1 st1.L st1.H st1.H fun L H => outK an.refs o K .normal ⟨L, H⟩) (fzIds (slotRows st.L st.H d.fz) st) = some r) : PieceOK P an (.region id ops true) f :=
  fun R E F hE hF st K r ρ L h hk hs => by
    obtain ⟨L2, h2, sh, hs2⟩ := fzIds_ok (ids := slotRows st.L st.H d.fz) hs
    refine Abs.aw_shift sh ⟨fun ι I a w rel => ?_⟩
    refine Draw.drawL (S := sys P E F ops (maskH d.vis (fzIds (slotRows st.L st.H d.fz) st).H)) (L := (fzIds (slotRows st.L st.H d.fz) st).L) (h := (fzIds (slotRows st.L st.H d.fz) st).H) hm d.cs d.orders hp (fun p hpm => ?_) ⟨maskH_le _ _, ρ, L2, h2, ι, I, hs2, rel⟩
    obtain ⟨Df, Hl, hl, Df', k1, k3, k2⟩ := drawD_ok (F := F) (E := E) htb hO hE (hs := []) (hf p hpm R st K r hk) rfl (fun h hm => by simp at hm; subst hm; exact .refl _)
    refine ⟨Df', Hl, hl, k1, fun a w ⟨_, ρ', L', h', ι', I', q1, q2⟩ => ?_⟩
    have q3 : SR F ρ' ⟨Df, Hl⟩ L' h' := ⟨k3.enc q1.slots, q1.heap, q1.fr⟩
    obtain ⟨ρ3, st3, m1, m2⟩ := restrict_ok hF q3 k2
    exact ⟨L', h', ι', I', ⟨ρ3, st3, m1, m2⟩, q2⟩
theorem cut_piece (hm : P.follows .mixedOrders = true) (htb : TBOK P tb) (hO : OrcOK P O) {an : Ann} {pc : Pcs} {c : Code} {o : Outs} (hP : AllP P an pc (pieces an c)) {f : (R : Type) → St → Kt R → Option R} (hf : ∀ (R : Type) (st : St) (K : Kt R) (r : R), f R st K = some r → den tb O pc an c st (outK an.refs o K) = some r) : PieceOK P an c f :=
  fun R _ _ hE hF st K r _ _ _ hk hs => Abs.aw_mono (fun _ _ _ ⟨_, _, k1, k2⟩ => let ⟨ρ2, st2, m1, m2⟩ := restrict_ok hF k2 k1; ⟨ρ2, st2, m1, m2⟩) (den_ok hm htb hO hE hF hP (hf R st K r hk) hs)
theorem loop_piece (hm : P.follows .mixedOrders = true) (htb : TBOK P tb) (hO : OrcOK P O) {an : Ann} {pc : Pcs} {c : Code} {lv : List Nat} {o : Outs} (hP : AllP P an pc (pieces an c)) {f : Nat → (R : Type) → St → Kt R → Option R} (h0 : ∀ (R : Type) (st : St) (K : Kt R), f 0 R st K = none)
    (hf : ∀ (n : Nat) (R : Type) (st : St) (K : Kt R) (r : R), f (n + 1) R st K = some r → den tb O pc an c st (roundK an.refs lv o (fun st' => f n R st' K) K) = some r) (n : Nat) : PieceOK P an (.loop c) (f n) :=
  fun R E F hE hF st K r ρ L h hk hs => by
    refine Abs.aw_loop (fun m L h => ∃ ρ st, f m R st K = some r ∧ SR F ρ st L h) (Abs.sub_refl L) ⟨ρ, st, hk, hs⟩ ?_
    rintro m L h ⟨ρ, st, m1, m2⟩
    cases m with
    | zero => rw [h0] at m1; cases m1
    | succ m =>
      refine Abs.aw_mono ?_ (den_ok hm htb hO hE hF hP (hf m R st K r m1) m2)
      rintro e L h ⟨ρ', st', k1, k2⟩
      cases e with
      | normal =>
        simp only [roundK, thenK] at k1
        obtain ⟨ρ2, st2, q1, q2⟩ := restrict_ok hF k2 k1
        exact ⟨m, L, Nat.lt_succ_self m, Abs.sub_refl L, ρ2, st2, q1, q2⟩
      | _ =>
        simp only [roundK, thenK, outK] at k1
        obtain ⟨ρ2, st2, q1, q2⟩ := restrict_ok hF k2 k1
        exact ⟨ρ2, st2, q1, q2⟩
end
end Go.Proofs.YtagnfckihdlhpaaDoor.Den

/-
  A function, by den: its contract.
-/
namespace Go.Proofs.YtagnfckihdlhpaaDoor.Den
open Go.RowKit
open Abs (V AV Env Heap ar aw ao)

def argsD : Nat → List AT → List (Nat × AT)
  | _, [] => []
  | k, x :: xs => (k, x) :: argsD (k + 1) xs
def resD (tb : Nat → Option TI) (L : List (Nat × AT)) (H : List Ob) : ResultVar → Option AT
  | .tmp t => L.lookup t
  | .cell a t => match L.lookup a, tb t with
    | some (.one (.p id off)), some ti => match H[id]? with
      | some (.box cs) => ld ti.agg ti.size (cs.drop off)
      | _ => none
    | _, _ => none
def resDs (tb : Nat → Option TI) (L : List (Nat × AT)) (H : List Ob) : List ResultVar → Option (List AT)
  | [] => some []
  | r :: rs => match resD tb L H r, resDs tb L H rs with
    | some v, some vs => some (v :: vs)
    | _, _ => none
def packR : List AT → AT
  | [x] => x
  | xs => .tup xs
def packA : List AV → AV
  | [x] => x
  | xs => .tup xs
def rowsR : List AT → List Nat
  | [] => []
  | x :: xs => (match cells x with
    | some cs => cs.flatMap C.rows
    | none => []) ++ rowsR xs
def idsR (tb : Nat → Option TI) (rs : List ResultVar) (st : St) : List Nat := match resDs tb st.L st.H rs with
  | some vs => rowsR vs
  | none => []
/-- A function's end: its results are flat. -/
def finF (tb : Nat → Option TI) (an : Ann) (rs : List ResultVar) (st : St) : Option (AT × List Ob) :=
  let st1 := fzIds (idsR tb rs st) st
  match resDs tb st1.L st1.H rs with
  | some vs => match peekAs [] vs with
    | some us => restrict an.refs [] st1 fun st2 => some (packR us, st2.H)
    | none => none
  | none => none
def looksD (L : List (Nat × AT)) : Nat → Nat → Option (List AT)
  | _, 0 => some []
  | k, m + 1 => match L.lookup k, looksD L (k + 1) m with
    | some v, some vs => some (v :: vs)
    | _, _ => none
/-- A function's end: its results are own objects. -/
def finR (tb : Nat → Option TI) (an : Ann) (rs : List ResultVar) (st : St) : Option (AT × List Ob) :=
  match resDs tb st.L st.H rs with
  | some vs => restrict an.refs (List.range vs.length) ⟨argsD 0 vs, st.H⟩ fun st2 => match looksD st2.L 0 vs.length with
    | some us => some (packR us, st2.H)
    | none => none
  | none => none
def atEnd {R : Type} (fin : St → Option R) : Kt R
  | .normal, st => fin st
  | .ret, st => fin st
  | _, _ => none

section
variable {P : Program} {E : Abs.Cx} {F : In} {ρ ρ' : Rho} {H : List Ob} {D : List (Nat × AT)} {L : Env} {h h' : Heap} {R : Type} {tb : Nat → Option TI} {O : Orc}

theorem argsD_enc : ∀ {k : Nat} {xs : List AT} {avs : List AV}, ATRs ρ H xs avs → EncL ρ H (argsD k xs) (Abs.argEnv k avs)
  | k, [], avs, _ => fun t v hv => by simp [argsD] at hv
  | k, x :: xs, avs, hr => by
    obtain ⟨av, avs, rfl, r1, r2⟩ := hr.head
    intro t v hv
    simp only [argsD, List.lookup_cons] at hv
    simp only [Abs.argEnv, List.lookup_cons]
    split at hv
    · cases hv; exact ⟨av, rfl, r1⟩
    · exact argsD_enc r2 t v hv
theorem resD_ok (htb : TBOK P tb) {st : St} (hs : SR F ρ st L h) {rv : ResultVar} {v : AT} (hv : resD tb st.L st.H rv = some v) : ∃ av, ATR ρ st.H v av ∧ Abs.Res1 P L h rv av := by
  cases rv with
  | tmp t =>
    obtain ⟨av, h1, h2⟩ := hs.slots t v hv
    exact ⟨av, h2, Abs.res1_tmp h1⟩
  | cell a t =>
    unfold resD at hv
    simp only at hv
    split at hv
    · rename_i id off ti h1 h2
      split at hv
      · rename_i cs h3
        obtain ⟨i, G⟩ := htb.get h2
        obtain ⟨av, k1, k2⟩ := hs.slots a _ h1
        obtain ⟨u, rfl, k3⟩ := k2.one'
        obtain ⟨b, rfl, k4⟩ := k3.ptr
        obtain ⟨b', vs, k5, k6, k7⟩ := hs.heap.box id cs h3
        rw [k4] at k5
        cases k5
        obtain ⟨av, k8, k9⟩ := ld_ok hv (k7.drop off)
        exact ⟨av, k9, Abs.res1_cell G.tb k1 G.look k6 rfl (by rw [G.size, G.agg]; exact k8)⟩
      · cases hv
    · cases hv
theorem resDs_ok (htb : TBOK P tb) {st : St} (hs : SR F ρ st L h) : ∀ {rs : List ResultVar} {vs : List AT}, resDs tb st.L st.H rs = some vs → ∃ avs, ATRs ρ st.H vs avs ∧ Abs.ResL P L h rs avs
  | [], vs, hv => by cases hv; exact ⟨[], .nil_, .nil⟩
  | r :: rs, vs, hv => by
    simp only [resDs] at hv
    split at hv
    · rename_i x xs h1 h2
      cases hv
      obtain ⟨av, k1, k2⟩ := resD_ok htb hs h1
      obtain ⟨avs, k3, k4⟩ := resDs_ok htb hs h2
      exact ⟨av :: avs, .cons k1 k3, .cons k2 k4⟩
    · cases hv
theorem Weak.refl (a : List AV) : Weak a a := ⟨rfl, fun _ _ _ _ _ _ _ h => h⟩
theorem res_pack {fn : Func} {rs : List ResultVar} {avs bvs : List AV} (hr : fn.results = rs.toArray) (k : Abs.ResL P L h rs avs) (hw : Weak avs bvs) : Abs.Res P fn L h (packA bvs) :=
  ⟨fun E ι I a w r => by
    obtain ⟨cs, e1, e2, e3⟩ := k.run r
    have e0 : results fn a.tmps = (do let vs ← rs.toArray.mapM (Abs.rvRun a.tmps); pure (if h : vs.size = 1 then vs[0] else .tuple vs)) := by
      unfold results
      rw [hr]
      congr 2
    have e4 : ∀ j (hj : j < bvs.length), ∃ c, cs[j]? = some c ∧ Abs.AR ι I w bvs[j] c := fun j hj => by
      obtain ⟨c, g1, g2⟩ := e3 j (by rw [hw.1]; exact hj)
      exact ⟨c, g1, hw.2 j _ hj _ _ _ _ g2⟩
    have e2 : cs.length = bvs.length := e2.trans hw.1
    rw [e0]
    simp only [List.mapM_toArray]
    by_cases h1 : cs.length = 1
    · obtain ⟨c, rfl⟩ := List.length_eq_one_iff.1 h1
      obtain ⟨b, rfl⟩ := List.length_eq_one_iff.1 (e2.symm.trans h1)
      obtain ⟨c', g1, g2⟩ := e4 0 (by simp)
      simp at g1
      subst g1
      exact ⟨c, by simp [e1], g2⟩
    · refine ⟨.tuple cs.toArray, by simp [e1, h1], ?_⟩
      have hp : packA bvs = .tup bvs := by
        match bvs, e2 with
        | [], _ => rfl
        | [b], e => exact absurd e h1
        | b :: c :: l, _ => rfl
      rw [hp]
      refine .tup (f := fun j => (cs[j]?).getD undef) (by simpa using e2) (fun j hj => ?_) (fun j hj => ?_)
      · obtain ⟨c, g1, _⟩ := e4 j hj
        simp [g1]
      · obtain ⟨c, g1, g2⟩ := e4 j hj
        simpa [g1] using g2⟩
theorem packR_ok {xs : List AT} {avs : List AV} (h : ATRs ρ H xs avs) : ATR ρ H (packR xs) (packA avs) := by
  match xs, avs, h with
  | [], [], h => exact .tup rfl (fun j h => by simp at h)
  | [x], [a], h => exact h.2 0 (by simp) (by simp)
  | x :: y :: l, a :: b :: m, h => exact .tup h.1 h.2
  | [], a :: m, h => exact absurd h.1 (by simp)
  | x :: l, [], h => exact absurd h.1 (by simp)
  | [x], a :: b :: m, h => exact absurd h.1 (by simp)
  | x :: y :: l, [a], h => exact absurd h.1 (by simp)
theorem peekAs_up {H0 H1 : List Ob} {ρ0 : Rho} : ∀ {xs ys : List AT} {bvs : List AV}, peekAs H0 xs = some ys → ATRs ρ0 H1 ys bvs → ATRs ρ H ys bvs
  | [], ys, bvs, hp, h => by
    cases hp
    have := h.1
    cases bvs with
    | nil => exact .nil_
    | cons _ _ => simp at this
  | x :: xs, ys, bvs, hp, h => by
    simp only [peekAs] at hp
    split at hp
    · rename_i y ys' h1 h2
      cases hp
      obtain ⟨av, avs, rfl, r1, r2⟩ := h.head
      exact .cons (peekA_up h1 r1) (peekAs_up h2 r2)
    · cases hp
theorem Fr.refl (ρ : Rho) (H : List Ob) (h : Heap) : Fr ⟨h, ρ, H⟩ ρ H h := ⟨Nat.le_refl _, fun _ _ h _ => h, fun _ _ _ => rfl, fun _ _ h => h, fun _ x h => ⟨x, h, evo0.refl x⟩⟩

theorem looksD_ok0 {L2 : List (Nat × AT)} : ∀ {m k : Nat} {avs : List AV} {us : List AT} {E : Env}, EncL ρ H L2 E → (∀ j, j < m → ∃ av, avs[j]? = some av ∧ ∀ x, E.lookup (k + j) = some x → x = av) → avs.length = m → looksD L2 k m = some us → ATRs ρ H us avs
  | 0, k, avs, us, E, _, _, hl, h => by
    cases h
    rw [List.eq_nil_of_length_eq_zero hl]
    exact .nil_
  | m + 1, k, avs, us, E, he, hav, hl, h => by
    simp only [looksD] at h
    split at h
    · rename_i v vs h1 h2
      cases h
      cases avs with
      | nil => simp at hl
      | cons av avs =>
        obtain ⟨av', g1, g2⟩ := hav 0 (by omega)
        simp at g1
        subst g1
        obtain ⟨x, k1, k2⟩ := he k v h1
        have := g2 x (by simpa using k1)
        subst this
        refine .cons k2 (looksD_ok0 he (fun j hj => ?_) (by simpa using hl) h2)
        obtain ⟨y, m1, m2⟩ := hav (j + 1) (by omega)
        exact ⟨y, by simpa using m1, fun z hz => m2 z (by rw [← hz]; congr 1; omega)⟩
    · cases h
theorem looksD_ok {L2 : List (Nat × AT)} {n : Nat} {avs : List AV} {us : List AT} (he : EncL ρ H L2 (Abs.argEnv 0 avs)) (hl : n = avs.length) (h : looksD L2 0 n = some us) : ATRs ρ H us avs := by
  refine looksD_ok0 he (fun j hj => ?_) hl.symm h
  have hlt : j < avs.length := by omega
  refine ⟨avs[j], List.getElem?_eq_getElem hlt, fun x hx => ?_⟩
  have := (Abs.argEnv_lookup avs 0 (0 + j) x hx).2
  rw [Nat.zero_add, Nat.sub_zero, List.getElem?_eq_getElem hlt] at this
  cases this
  rfl
/-- A function's contract, by den. -/
theorem fn_of_den {f : FuncId} {fn : Func} {c : Code} {rs : List ResultVar} {an : Ann} {pc : Pcs} {xs : List AT} {v : AT} {H' : List Ob} {fin : St → Option (AT × List Ob)} (hm : P.follows .mixedOrders = true) (htb : TBOK P tb) (hO : OrcOK P O) (hf : P.funcs[f]? = some fn) (hb : fn.body = some c) (hname : (fn.name == "runtime.NumGoroutine") = false)
    (hnt : Nat.beq fn.ntmps an.nt = true) (hx : Nat.ble xs.length an.nt = true) (hr : Nat.beq an.refs H.length = true) (hrs : fn.results = rs.toArray) (hfin : fin = finF tb an rs ∨ fin = finR tb an rs)
    (hP : AllP P an pc (pieces an c)) (hd : den tb O pc an c ⟨argsD 0 xs, H⟩ (atEnd fin) = some (v, H')) : CFn P f xs H v H' := by
  have hnt := Nat.eq_of_beq_eq_true hnt
  have hx := Nat.le_of_ble_eq_true hx
  have hr := Nat.eq_of_beq_eq_true hr
  intro ρ h avs hp ha
  refine Abs.fn_of_aw hf hb hname (by rw [hnt, ← ha.1]; exact hx) fun E hE => ?_
  have hF : (In.mk h ρ H).ok an.refs := ⟨by rw [hr]; exact hp.len, hr.symm⟩
  refine Abs.aw_mono ?_ (den_ok (F := ⟨h, ρ, H⟩) hm htb hO (hE.trans hnt) hF hP hd ⟨argsD_enc ha, hp, Fr.refl _ _ _⟩)
  have key : ∀ {st : St} {ρ' : Rho} {L : Env} {h1 : Heap}, fin st = some (v, H') → SR ⟨h, ρ, H⟩ ρ' st L h1 →
      ∃ L2 h2 r, Abs.Shift L h1 L2 h2 ∧ Abs.Res P fn L2 h2 r ∧ Abs.Out h (fun r h' => ∃ ρ', ATR ρ' H' v r ∧ HpR ρ' H' h' ∧ Fr ⟨h, ρ, H⟩ ρ' H' h') r h2 := by
    intro st ρ' L h1 hk hs
    rcases hfin with rfl | rfl
    · unfold finF at hk
      obtain ⟨L2, h2, sh, hs2⟩ := fzIds_ok (ids := idsR tb rs st) hs
      simp only at hk
      split at hk
      · rename_i vs hvs
        split at hk
        · rename_i us hus
          obtain ⟨avs', a1, a2⟩ := resDs_ok htb hs2 hvs
          obtain ⟨bvs, b1, b2, b3⟩ := peekAs0_ok hus a1
          obtain ⟨ρ2, st2, c1, c2⟩ := restrict_ok hF hs2 hk
          cases c1
          exact ⟨L2, h2, packA bvs, sh, res_pack hrs a2 b3, .inl ⟨ρ2, packR_ok (peekAs_up hus b1), c2.heap, c2.fr⟩⟩
        · cases hk
      · cases hk
    · unfold finR at hk
      split at hk
      · rename_i vs hvs
        obtain ⟨avs', a1, a2⟩ := resDs_ok htb hs hvs
        have hs' : SR ⟨h, ρ, H⟩ ρ' ⟨argsD 0 vs, st.H⟩ (Abs.argEnv 0 avs') h1 := ⟨argsD_enc a1, hs.heap, hs.fr⟩
        obtain ⟨ρ2, st2, c1, c2⟩ := restrict_ok hF hs' hk
        split at c1
        · rename_i us hus
          cases c1
          exact ⟨L, h1, packA avs', .refl _ _, res_pack hrs a2 (Weak.refl _), .inl ⟨ρ2, packR_ok (looksD_ok c2.slots a1.1 hus), c2.heap, c2.fr⟩⟩
        · cases c1
      · cases hk
  rintro e L h1 ⟨ρ', st', k1, k2⟩
  cases e with
  | normal => exact key k1 k2
  | ret => exact key k1 k2
  | _ => cases k1
end
end Go.Proofs.YtagnfckihdlhpaaDoor.Den

/-
  What den knows of the program's types. Printed by wip/den/dp.py.
-/
namespace Go.Proofs.YtagnfckihdlhpaaDoor.Den
open Go.RowKit
def tbl : List (Nat × TI) := [
  (1, ⟨1, false, [.z], [], none, false, false, false, none, none⟩),
  (2, ⟨1, false, [.i 0], [], none, false, true, false, some .i64, none⟩),
  (3, ⟨1, false, [.i 0], [], none, false, true, false, some .i64, none⟩),
  (4, ⟨1, false, [.b false], [], none, false, false, true, none, none⟩),
  (5, ⟨1, false, [.k .u8 0], [], none, false, false, false, some .u8, none⟩),
  (6, ⟨1, false, [.k .u8 0], [], none, false, false, false, some .u8, none⟩),
  (7, ⟨4, true, [.i 0, .i 0, .b false, .k .u8 0], [(0, 2, 1), (1, 3, 1), (2, 4, 1), (3, 6, 1)], none, false, false, false, none, none⟩),
  (8, ⟨4, true, [.i 0, .i 0, .b false, .k .u8 0], [(0, 2, 1), (1, 3, 1), (2, 4, 1), (3, 6, 1)], none, false, false, false, none, none⟩),
  (9, ⟨1, false, [.s ByteArray.empty], [], none, true, false, false, none, none⟩),
  (10, ⟨1, false, [.s ByteArray.empty], [], none, true, false, false, none, none⟩),
  (11, ⟨1, false, [.s ByteArray.empty], [], none, true, false, false, none, none⟩),
  (12, ⟨1, false, [.k .u64 0], [], none, false, false, false, some .u64, none⟩),
  (13, ⟨2, true, [.s ByteArray.empty, .k .u64 0], [(0, 9, 1), (1, 12, 1)], none, false, false, false, none, none⟩),
  (14, ⟨2, true, [.s ByteArray.empty, .k .u64 0], [(0, 9, 1), (1, 12, 1)], none, false, false, false, none, none⟩),
  (15, ⟨1, false, [.z], [], none, false, false, false, none, none⟩),
  (16, ⟨1, false, [.z], [], none, false, false, false, none, none⟩),
  (17, ⟨1, false, [.z], [], none, false, false, false, none, none⟩),
  (18, ⟨1, true, [.z], [(0, 17, 1)], none, false, false, false, none, none⟩),
  (19, ⟨1, true, [.z], [(0, 17, 1)], none, false, false, false, none, none⟩),
  (21, ⟨1, false, [.k .i32 0], [], none, false, false, false, some .i32, none⟩),
  (22, ⟨1, false, [.nil (.n 2)], [], some (.n 2), false, false, false, none, none⟩),
  (23, ⟨3, true, [.i 0, .i 0, .nil (.n 2)], [(0, 3, 1), (1, 3, 1), (2, 22, 1)], none, false, false, false, none, none⟩),
  (24, ⟨3, true, [.i 0, .i 0, .nil (.n 2)], [(0, 3, 1), (1, 3, 1), (2, 22, 1)], none, false, false, false, none, none⟩),
  (25, ⟨1, false, [.z], [], none, false, false, false, none, none⟩),
  (26, ⟨1, false, [.z], [], none, false, false, false, none, none⟩),
  (27, ⟨1, false, [.nil (.n 2)], [], some (.n 2), false, false, false, none, none⟩),
  (28, ⟨3, true, [.i 0, .i 0, .nil (.n 2)], [(0, 3, 1), (1, 3, 1), (2, 27, 1)], none, false, false, false, none, none⟩),
  (29, ⟨3, true, [.i 0, .i 0, .nil (.n 2)], [(0, 3, 1), (1, 3, 1), (2, 27, 1)], none, false, false, false, none, none⟩),
  (30, ⟨1, false, [.z], [], none, false, false, false, none, none⟩),
  (31, ⟨1, false, [.z], [], none, false, false, false, none, none⟩),
  (32, ⟨1, false, [.z], [], none, false, false, false, none, none⟩),
  (33, ⟨1, false, [.nil .u], [], some .u, false, false, false, none, none⟩),
  (34, ⟨1, false, [.z], [], none, false, false, false, none, none⟩),
  (35, ⟨1, false, [.z], [], none, false, false, false, none, none⟩),
  (36, ⟨1, false, [.z], [], none, false, false, false, none, none⟩),
  (37, ⟨1, false, [.z], [], none, false, false, false, none, none⟩),
  (38, ⟨1, false, [.z], [], none, false, false, false, none, none⟩),
  (39, ⟨1, false, [.z], [], none, false, false, false, none, none⟩),
  (40, ⟨1, false, [.z], [], none, false, false, false, none, none⟩),
  (41, ⟨1, false, [.z], [], none, false, false, false, none, none⟩),
  (42, ⟨1, false, [.z], [], none, false, false, false, none, none⟩),
  (43, ⟨1, false, [.nil .s], [], some .s, false, false, false, none, none⟩),
  (44, ⟨1, false, [.z], [], none, false, false, false, none, none⟩),
  (45, ⟨1, false, [.z], [], none, false, false, false, none, none⟩),
  (46, ⟨1, false, [.z], [], none, false, false, false, none, none⟩),
  (47, ⟨1, false, [.z], [], none, false, false, false, none, none⟩),
  (48, ⟨1, false, [.z], [], none, false, false, false, none, none⟩),
  (49, ⟨1, false, [.z], [], none, false, false, false, none, none⟩),
  (50, ⟨1, false, [.z], [], none, false, false, false, none, none⟩),
  (51, ⟨2, true, [.z, .nil .u], [(0, 50, 1), (1, 33, 1)], none, false, false, false, none, none⟩),
  (52, ⟨2, true, [.z, .nil .u], [(0, 50, 1), (1, 33, 1)], none, false, false, false, none, none⟩),
  (53, ⟨1, false, [.z], [], none, false, false, false, none, none⟩),
  (57, ⟨1, false, [.z], [], none, false, false, false, none, none⟩),
  (58, ⟨1, false, [.z], [], none, false, false, false, none, none⟩),
  (59, ⟨3, true, [.nil .u, .i 0, .i 0], [(0, 33, 1), (1, 3, 1), (2, 3, 1)], none, false, false, false, none, none⟩),
  (60, ⟨3, true, [.nil .u, .i 0, .i 0], [(0, 33, 1), (1, 3, 1), (2, 3, 1)], none, false, false, false, none, none⟩),
  (61, ⟨1, false, [.z], [], none, false, false, false, none, none⟩),
  (62, ⟨1, false, [.z], [], none, false, false, false, none, none⟩),
  (63, ⟨1, false, [.z], [], none, false, false, false, none, none⟩),
  (64, ⟨1, false, [.z], [], none, false, false, false, none, none⟩),
  (65, ⟨1, false, [.z], [], none, false, false, false, none, none⟩),
  (66, ⟨1, false, [.z], [], none, false, false, false, none, none⟩),
  (68, ⟨1, false, [.z], [], none, false, false, false, none, none⟩),
  (69, ⟨1, false, [.z], [], none, false, false, false, none, none⟩),
  (70, ⟨1, false, [.k .u64 0], [], none, false, false, false, some .u64, none⟩),
  (72, ⟨1, false, [.k .u64 0], [], none, false, false, false, some .u64, none⟩),
  (73, ⟨1, false, [.z], [], none, false, false, false, none, none⟩),
  (74, ⟨1, false, [.z], [], none, false, false, false, none, none⟩),
  (76, ⟨1, false, [.z], [], none, false, false, false, none, none⟩),
  (77, ⟨1, false, [.z], [], none, false, false, false, none, none⟩),
  (78, ⟨1, false, [.z], [], none, false, false, false, none, none⟩),
  (80, ⟨1, false, [.k .u32 0], [], none, false, false, false, some .u32, none⟩),
  (82, ⟨1, false, [.z], [], none, false, false, false, none, none⟩),
  (83, ⟨1, false, [.z], [], none, false, false, false, none, none⟩),
  (84, ⟨1, false, [.z], [], none, false, false, false, none, none⟩),
  (87, ⟨4, true, [.z, .z, .z, .s ByteArray.empty], [(0, 17, 1), (1, 17, 1), (2, 17, 1), (3, 9, 1)], none, false, false, false, none, none⟩),
  (88, ⟨4, true, [.z, .z, .z, .s ByteArray.empty], [(0, 17, 1), (1, 17, 1), (2, 17, 1), (3, 9, 1)], none, false, false, false, none, none⟩),
  (92, ⟨1, false, [.z], [], none, false, false, false, none, none⟩),
  (93, ⟨1, false, [.k .u8 0], [], none, false, false, false, some .u8, none⟩),
  (94, ⟨1, false, [.k .u8 0], [], none, false, false, false, some .u8, none⟩),
  (95, ⟨1, false, [.z], [], none, false, false, false, none, none⟩),
  (96, ⟨1, false, [.k .i32 0], [], none, false, false, false, some .i32, none⟩),
  (97, ⟨1, false, [.k .i32 0], [], none, false, false, false, some .i32, none⟩),
  (98, ⟨11, true, [.k .u64 0, .k .u64 0, .k .u32 0, .k .u8 0, .k .u8 0, .k .u8 0, .k .u8 0, .z, .z, .k .i32 0, .k .i32 0], [(0, 12, 1), (1, 12, 1), (2, 80, 1), (3, 93, 1), (4, 5, 1), (5, 5, 1), (6, 94, 1), (7, 95, 1), (8, 63, 1), (9, 96, 1), (10, 97, 1)], none, false, false, false, none, none⟩),
  (99, ⟨11, true, [.k .u64 0, .k .u64 0, .k .u32 0, .k .u8 0, .k .u8 0, .k .u8 0, .k .u8 0, .z, .z, .k .i32 0, .k .i32 0], [(0, 12, 1), (1, 12, 1), (2, 80, 1), (3, 93, 1), (4, 5, 1), (5, 5, 1), (6, 94, 1), (7, 95, 1), (8, 63, 1), (9, 96, 1), (10, 97, 1)], none, false, false, false, none, none⟩)]
def tb (t : Nat) : Option TI := tbl.lookup t
noncomputable def tblOK : Bool := tbl.all fun p => match Abs.tyOf Tryd.prog p.1 with
  | some i => tiOK i p.2 && mapOK Tryd.prog p.1 p.2
  | none => false
theorem tblOK_true : tblOK = true := by kernel_rfl
theorem mixed : Tryd.prog.follows .mixedOrders = true := by kernel_rfl
theorem tb_ok : TBOK Tryd.prog tb := fun t ti h => by
  have hm : (t, ti) ∈ tbl := lookup_mem h
  have := List.all_eq_true.1 tblOK_true _ hm
  simp only at this
  split at this
  · rename_i i hi; rw [Bool.and_eq_true] at this; exact ⟨i, hi, this.1, this.2⟩
  · cases this
namespace l_FnExactFormatFormula
noncomputable def ent (g : Fm → Option (Bool)) : Ent := ⟨3, 0, [0], fun _ xs H K => match xs, H with
  | [.agg [.i a, .i a2, .l (.n 2) a3]], [] => Option.bind (g (Fm.mk a a2 a3)) fun r => K (.one (.b r)) []
  | _, _ => none⟩
end l_FnExactFormatFormula
namespace l_FnFormulaText
noncomputable def ent (g : List Int → Option (Bool)) : Ent := ⟨4, 0, [0], fun _ xs H K => match xs, H with
  | [.one (.l .u a)], [] => Option.bind (g a) fun r => K (.one (.b r)) []
  | _, _ => none⟩
end l_FnFormulaText
namespace l_szFormula
noncomputable def ent (g : Fm → Int → Option (Int)) : Ent := ⟨5, 0, [0, 0], fun _ xs H K => match xs, H with
  | [.agg [.i a, .i a2, .l (.n 2) a3], .one (.i a4)], [] => Option.bind (g (Fm.mk a a2 a3) a4) fun r => K (.one (.i r)) []
  | _, _ => none⟩
end l_szFormula
namespace s_FormatFormula
noncomputable def ent (g : Fm → Option (ByteArray)) : Ent := ⟨6, 0, [0], fun _ xs H K => match xs, H with
  | [.agg [.i a, .i a2, .l (.n 2) a3]], [] => Option.bind (g (Fm.mk a a2 a3)) fun r => K (.one (.s r)) []
  | _, _ => none⟩
end s_FormatFormula
namespace l_toFormula
noncomputable def ent (g : Fm → Option (Fm)) : Ent := ⟨7, 1, [0], fun _ xs H K => match xs, H with
  | [.agg [.i a, .i a2, .l (.n 2) a3]], [] => Option.bind (g (Fm.mk a a2 a3)) fun r => K (.agg [.i (Fm.kind r), .i (Fm.prop r), .l (.n 2) (Fm.kids r)]) []
  | _, _ => none⟩
end l_toFormula
namespace i_FormatFormula
noncomputable def ent (g : Fm → Option (ByteArray)) : Ent := ⟨8, 0, [0], fun _ xs H K => match xs, H with
  | [.agg [.i a, .i a2, .l (.n 2) a3]], [] => Option.bind (g (Fm.mk a a2 a3)) fun r => K (.one (.s r)) []
  | _, _ => none⟩
end i_FormatFormula
namespace l_eqFormula
noncomputable def ent (g : Fm → Fm → Option (Bool)) : Ent := ⟨9, 0, [0, 0], fun _ xs H K => match xs, H with
  | [.agg [.i a, .i a2, .l (.n 2) a3], .agg [.i a4, .i a5, .l (.n 2) a6]], [] => Option.bind (g (Fm.mk a a2 a3) (Fm.mk a4 a5 a6)) fun r => K (.one (.b r)) []
  | _, _ => none⟩
end l_eqFormula
namespace l_big
noncomputable def ent (g : List Int → Option (Bool)) : Ent := ⟨10, 0, [0], fun _ xs H K => match xs, H with
  | [.one (.l .u a)], [] => Option.bind (g a) fun r => K (.one (.b r)) []
  | _, _ => none⟩
end l_big
namespace s_DrawFormatFormula
noncomputable def ent (g : List Int → Option (Fm)) : Ent := ⟨11, 1, [0], fun _ xs H K => match xs, H with
  | [.one (.l .u a)], [] => Option.bind (g a) fun r => K (.agg [.i (Fm.kind r), .i (Fm.prop r), .l (.n 2) (Fm.kids r)]) []
  | _, _ => none⟩
end s_DrawFormatFormula
namespace l_tail
noncomputable def ent (g : List Int → Option (List Int)) : Ent := ⟨12, 1, [0], fun _ xs H K => match xs, H with
  | [.one (.l .u a)], [] => Option.bind (g a) fun r => K (.one (.l .u r)) []
  | _, _ => none⟩
end l_tail
namespace s_IsFormula
noncomputable def ent (g : Fm → Option (Bool)) : Ent := ⟨13, 0, [0], fun _ xs H K => match xs, H with
  | [.agg [.i a, .i a2, .l (.n 2) a3]], [] => Option.bind (g (Fm.mk a a2 a3)) fun r => K (.one (.b r)) []
  | _, _ => none⟩
end s_IsFormula
namespace l_alike
noncomputable def ent (g : Fm → Fm → Option (Bool)) : Ent := ⟨14, 0, [0, 0], fun _ xs H K => match xs, H with
  | [.agg [.i a, .i a2, .l (.n 2) a3], .agg [.i a4, .i a5, .l (.n 2) a6]], [] => Option.bind (g (Fm.mk a a2 a3) (Fm.mk a4 a5 a6)) fun r => K (.one (.b r)) []
  | _, _ => none⟩
end l_alike
namespace l_szFormulaS
noncomputable def ent (g : List Fm → Int → Option (Int)) : Ent := ⟨15, 0, [0, 0], fun _ xs H K => match xs, H with
  | [.one (.l (.n 2) a), .one (.i a2)], [] => Option.bind (g a a2) fun r => K (.one (.i r)) []
  | _, _ => none⟩
end l_szFormulaS
namespace s_l31Text
noncomputable def ent (g : Fm → Option (ByteArray)) : Ent := ⟨16, 0, [0], fun _ xs H K => match xs, H with
  | [.agg [.i a, .i a2, .l (.n 2) a3]], [] => Option.bind (g (Fm.mk a a2 a3)) fun r => K (.one (.s r)) []
  | _, _ => none⟩
end s_l31Text
namespace l_toFormulaS
noncomputable def ent (g : List Fm → Option (List Fm)) : Ent := ⟨17, 1, [0], fun _ xs H K => match xs, H with
  | [.one (.l (.n 2) a)], [] => Option.bind (g a) fun r => K (.one (.l (.n 2) r)) []
  | _, _ => none⟩
end l_toFormulaS
namespace i_IsFormula
noncomputable def ent (g : Fm → Option (Bool)) : Ent := ⟨18, 0, [0], fun _ xs H K => match xs, H with
  | [.agg [.i a, .i a2, .l (.n 2) a3]], [] => Option.bind (g (Fm.mk a a2 a3)) fun r => K (.one (.b r)) []
  | _, _ => none⟩
end i_IsFormula
namespace i_formulaText
noncomputable def ent (g : Fm → Option (ByteArray)) : Ent := ⟨19, 0, [0], fun _ xs H K => match xs, H with
  | [.agg [.i a, .i a2, .l (.n 2) a3]], [] => Option.bind (g (Fm.mk a a2 a3)) fun r => K (.one (.s r)) []
  | _, _ => none⟩
end i_formulaText
namespace l_eqFormulaS
noncomputable def ent (g : List Fm → List Fm → Option (Bool)) : Ent := ⟨20, 0, [0, 0], fun _ xs H K => match xs, H with
  | [.one (.l (.n 2) a), .one (.l (.n 2) a2)], [] => Option.bind (g a a2) fun r => K (.one (.b r)) []
  | _, _ => none⟩
end l_eqFormulaS
namespace s_DrawIsFormula
noncomputable def ent (g : List Int → Option (Fm)) : Ent := ⟨21, 1, [0], fun _ xs H K => match xs, H with
  | [.one (.l .u a)], [] => Option.bind (g a) fun r => K (.agg [.i (Fm.kind r), .i (Fm.prop r), .l (.n 2) (Fm.kids r)]) []
  | _, _ => none⟩
end s_DrawIsFormula
namespace s_l31Left
noncomputable def ent (g : Fm → Int → Option (Int)) : Ent := ⟨22, 0, [0, 0], fun _ xs H K => match xs, H with
  | [.agg [.i a, .i a2, .l (.n 2) a3], .one (.i a4)], [] => Option.bind (g (Fm.mk a a2 a3) a4) fun r => K (.one (.i r)) []
  | _, _ => none⟩
end s_l31Left
namespace s_l31Right
noncomputable def ent (g : Fm → Option (Bool)) : Ent := ⟨23, 0, [0], fun _ xs H K => match xs, H with
  | [.agg [.i a, .i a2, .l (.n 2) a3]], [] => Option.bind (g (Fm.mk a a2 a3)) fun r => K (.one (.b r)) []
  | _, _ => none⟩
end s_l31Right
namespace s_FormatInt
noncomputable def ent (g : Int → Option (ByteArray)) : Ent := ⟨24, 0, [0], fun _ xs H K => match xs, H with
  | [.one (.i a)], [] => Option.bind (g a) fun r => K (.one (.s r)) []
  | _, _ => none⟩
end s_FormatInt
namespace s_Join
noncomputable def ent (g : List ByteArray → ByteArray → Option (ByteArray)) : Ent := ⟨25, 0, [0, 0], fun _ xs H K => match xs, H with
  | [.one (.l .s a), .one (.s a2)], [] => Option.bind (g a a2) fun r => K (.one (.s r)) []
  | _, _ => none⟩
end s_Join
namespace i_formulaSize
noncomputable def ent (g : Fm → Option (Int)) : Ent := ⟨26, 0, [0], fun _ xs H K => match xs, H with
  | [.agg [.i a, .i a2, .l (.n 2) a3]], [] => Option.bind (g (Fm.mk a a2 a3)) fun r => K (.one (.i r)) []
  | _, _ => none⟩
end i_formulaSize
namespace i_formulaOK
noncomputable def ent (g : Fm → Option (Bool)) : Ent := ⟨27, 0, [0], fun _ xs H K => match xs, H with
  | [.agg [.i a, .i a2, .l (.n 2) a3]], [] => Option.bind (g (Fm.mk a a2 a3)) fun r => K (.one (.b r)) []
  | _, _ => none⟩
end i_formulaOK
namespace i_FormatInt
noncomputable def ent (g : Int → Option (ByteArray)) : Ent := ⟨28, 0, [0], fun _ xs H K => match xs, H with
  | [.one (.i a)], [] => Option.bind (g a) fun r => K (.one (.s r)) []
  | _, _ => none⟩
end i_FormatInt
namespace strings_Join
noncomputable def ent (g : List ByteArray → ByteArray → Option (ByteArray)) : Ent := ⟨29, 0, [0, 0], fun _ xs H K => match xs, H with
  | [.one (.l .s a), .one (.s a2)], [] => Option.bind (g a a2) fun r => K (.one (.s r)) []
  | _, _ => none⟩
end strings_Join
namespace s_l1New
noncomputable def ent (g : List Int → Option (Cur)) : Ent := ⟨30, 2, [0], fun _ xs H K => match xs, H with
  | [.one (.l .u a)], [] => Option.bind (g a) fun r => K (.one (.p 0 0)) [.box [.l .u (Cur.b r), .i (Cur.i r), .i (Cur.h r)]]
  | _, _ => none⟩
end s_l1New
namespace s_l31Bent
noncomputable def ent (g : Cur → Option (Fm × Cur)) : Ent := ⟨31, 2, [1], fun _ xs H K => match xs, H with
  | [.one (.p 0 0)], [.box [.l .u h, .i h2, .i h3]] => Option.bind (g (Cur.mk h h2 h3)) fun r => K (.agg [.i (Fm.kind r.1), .i (Fm.prop r.1), .l (.n 2) (Fm.kids r.1)]) [.box [.l .u (Cur.b r.2), .i (Cur.i r.2), .i (Cur.h r.2)]]
  | _, _ => none⟩
end s_l31Bent
namespace s_l1In
noncomputable def ent (g : Int → Int → Int → Option (Bool)) : Ent := ⟨32, 0, [0, 0, 0], fun _ xs H K => match xs, H with
  | [.one (.i a), .one (.i a2), .one (.i a3)], [] => Option.bind (g a a2 a3) fun r => K (.one (.b r)) []
  | _, _ => none⟩
end s_l1In
namespace strconv_Itoa
noncomputable def ent (g : Int → Option (ByteArray)) : Ent := ⟨33, 0, [0], fun _ xs H K => match xs, H with
  | [.one (.i a)], [] => Option.bind (g a) fun r => K (.one (.s r)) []
  | _, _ => none⟩
end strconv_Itoa
namespace s_l31Draw
noncomputable def ent (g : Cur → Int → Option (Fm × Cur)) : Ent := ⟨37, 2, [1, 0], fun _ xs H K => match xs, H with
  | [.one (.p 0 0), .one (.i a)], [.box [.l .u h, .i h2, .i h3]] => Option.bind (g (Cur.mk h h2 h3) a) fun r => K (.agg [.i (Fm.kind r.1), .i (Fm.prop r.1), .l (.n 2) (Fm.kids r.1)]) [.box [.l .u (Cur.b r.2), .i (Cur.i r.2), .i (Cur.h r.2)]]
  | _, _ => none⟩
end s_l31Draw
namespace s_l31Draw_o
noncomputable def ent (g : Cur → Int → Option (Fm × Cur)) : Ent := ⟨37, 2, [1, 0], fun _ xs H K => match xs, H with
  | [.one (.p 0 0), .one (.i a)], [.box [.l .u h, .i h2, .i h3]] => Option.bind (g (Cur.mk h h2 h3) a) fun r => K (.agg [.i (Fm.kind r.1), .i (Fm.prop r.1), .o 1]) [.box [.l .u (Cur.b r.2), .i (Cur.i r.2), .i (Cur.h r.2)], .row (.n 2) 0 (Fm.kids r.1)]
  | _, _ => none⟩
end s_l31Draw_o
namespace s_l1Below
noncomputable def ent (g : Cur → Int → Option (Int × Cur)) : Ent := ⟨38, 2, [1, 0], fun _ xs H K => match xs, H with
  | [.one (.p 0 0), .one (.i a)], [.box [.l .u h, .i h2, .i h3]] => Option.bind (g (Cur.mk h h2 h3) a) fun r => K (.one (.i r.1)) [.box [.l .u (Cur.b r.2), .i (Cur.i r.2), .i (Cur.h r.2)]]
  | _, _ => none⟩
end s_l1Below
namespace internalstrconv_Itoa
noncomputable def ent (g : Int → Option (ByteArray)) : Ent := ⟨39, 0, [0], fun _ xs H K => match xs, H with
  | [.one (.i a)], [] => Option.bind (g a) fun r => K (.one (.s r)) []
  | _, _ => none⟩
end internalstrconv_Itoa
namespace s_l1Once
noncomputable def ent (g : Cur → Int → Option (Bool × Cur)) : Ent := ⟨42, 2, [1, 0], fun _ xs H K => match xs, H with
  | [.one (.p 0 0), .one (.i a)], [.box [.l .u h, .i h2, .i h3]] => Option.bind (g (Cur.mk h h2 h3) a) fun r => K (.one (.b r.1)) [.box [.l .u (Cur.b r.2), .i (Cur.i r.2), .i (Cur.h r.2)]]
  | _, _ => none⟩
end s_l1Once
namespace s_l1Byte
noncomputable def ent (g : Cur → Option (Int × Cur)) : Ent := ⟨43, 2, [1], fun _ xs H K => match xs, H with
  | [.one (.p 0 0)], [.box [.l .u h, .i h2, .i h3]] => Option.bind (g (Cur.mk h h2 h3)) fun r => K (.one (.i r.1)) [.box [.l .u (Cur.b r.2), .i (Cur.i r.2), .i (Cur.h r.2)]]
  | _, _ => none⟩
end s_l1Byte
namespace internalstrconv_FormatInt
noncomputable def ent (g : Int → Int → Option (ByteArray)) : Ent := ⟨44, 0, [0, 0], fun _ xs H K => match xs, H with
  | [.one (.i a), .one (.i a2)], [] => Option.bind (g a a2) fun r => K (.one (.s r)) []
  | _, _ => none⟩
end internalstrconv_FormatInt
namespace internalstrconv_small
noncomputable def ent (g : Int → Option (ByteArray)) : Ent := ⟨47, 0, [0], fun _ xs H K => match xs, H with
  | [.one (.i a)], [] => Option.bind (g a) fun r => K (.one (.s r)) []
  | _, _ => none⟩
end internalstrconv_small
namespace internalstrconv_log10Pow2
noncomputable def ent (g : Int → Option (Int)) : Ent := ⟨51, 0, [0], fun _ xs H K => match xs, H with
  | [.one (.i a)], [] => Option.bind (g a) fun r => K (.one (.i r)) []
  | _, _ => none⟩
end internalstrconv_log10Pow2
namespace internalstrconv_bool2_int
noncomputable def ent (g : Bool → Option (Int)) : Ent := ⟨53, 0, [0], fun _ xs H K => match xs, H with
  | [.one (.b a)], [] => Option.bind (g a) fun r => K (.one (.i r)) []
  | _, _ => none⟩
end internalstrconv_bool2_int
namespace internalstrconv_isPowerOfTwo
noncomputable def ent (g : Int → Option (Bool)) : Ent := ⟨54, 0, [0], fun _ xs H K => match xs, H with
  | [.one (.i a)], [] => Option.bind (g a) fun r => K (.one (.b r)) []
  | _, _ => none⟩
end internalstrconv_isPowerOfTwo
end Go.Proofs.YtagnfckihdlhpaaDoor.Den

/-
  What is read as data lies in memory as typed data: for any table of types; laws that are called with it.
-/
namespace Go.Proofs.YtagnfckihdlhpaaDoor.Den
open Go.ChangeShapes Go.WideShapes Go.ChangeAt Go.RowKit Go.Deep Go.Joins
open Abs (V AV VRs VR)

def memT (TM : List (Nat × Ty)) (t : Nat) (T : Ty) : Bool := TM.any fun p => Nat.beq p.1 t && decide (p.2 = T)
theorem memT_iff {TM : List (Nat × Ty)} {t : Nat} {T : Ty} (h : memT TM t T = true) : (t, T) ∈ TM := by
  obtain ⟨p, h1, h2⟩ := List.any_eq_true.1 h
  rw [Bool.and_eq_true] at h2
  have e1 := Nat.eq_of_beq_eq_true h2.1
  have e2 := of_decide_eq_true h2.2
  rw [← e1, ← e2]
  exact h1
noncomputable def fieldsT (P : Program) (TM : List (Nat × Ty)) : List Field → List Ty → Nat → Bool
  | [], [], _ => true
  | f :: fs, T :: Ts, off => Nat.beq f.offset off && Nat.beq (P.cellsOf f.type) (szT T) && memT TM f.type T && fieldsT P TM fs Ts (off + szT T)
  | _, _, _ => false
def szTs : List Ty → Nat
  | [] => 0
  | T :: Ts => szT T + szTs Ts
/-- A type of the program and a type of data fit. -/
noncomputable def stepT (P : Program) (TM : List (Nat × Ty)) (t : Nat) : Ty → Bool
  | .i => match P.underlying t with | some (.int .i64) => true | _ => false
  | .b => match P.underlying t with | some .bool => true | _ => false
  | .s => match P.underlying t with | some .string => true | _ => false
  | .u => match P.underlying t with | some (.int .u8) => true | _ => false
  | .sl T => match P.underlying t with
    | some (.slice e) => Nat.beq (P.cellsOf e) (szT T) && Nat.blt 0 (szT T) && memT TM e T
    | _ => false
  | .n k => match P.underlying t with
    | some (.struct fs) => Nat.beq (P.cellsOf t) (szTs (flds k)) && Nat.blt 0 (szT (.n k)) && fieldsT P TM fs.toList (flds k) 0
    | _ => false
def TMOK (P : Program) (TM : List (Nat × Ty)) : Prop := ∀ p ∈ TM, stepT P TM p.1 p.2 = true

/-- A datum that lies there. -/
def Lies (w : World) (T : Ty) (cs : List Value) : Prop := ∃ (d : I T) (vs : List V), FRs (explode T d) vs ∧ VRs [] (fun b => b < w.heap.size) w vs cs
theorem lies1 {w : World} {T : Ty} {d : I T} {c : C} {v : V} {u : Value} (he : explode T d = [c]) (hf : FR c v) (hv : VR (fun b => b < w.heap.size) w [] v u) : Lies w T [u] :=
  ⟨d, [v], by rw [he]; exact ⟨rfl, fun j h1 h2 => by
    have : j = 0 := by simp at h2; omega
    subst this; exact hf⟩, ⟨rfl, fun j hj => by
    have : j = 0 := by simp at hj; omega
    subst this; exact ⟨u, rfl, hv⟩⟩⟩

section
variable {H : Type} {enc : TypeId × Value → H} {P : Program} {w : World} {base : Nat} {spare : Nat → Bool} {held : Bool} {TM : List (Nat × Ty)}

theorem read_fields {fuel : Nat} {cs : List Value} {xs : List (DataW H × List MemPlace)} (ih : ∀ t T cs x, memT TM t T = true → DataW.trod enc P w base spare held fuel t cs = some x → Lies w T cs) : ∀ {fs : List Field} {Ts : List Ty} {off k : Nat}, fieldsT P TM fs Ts off = true → cs.length = off + szTs Ts → xs.length = k + fs.length →
    (∀ (i : Nat) (f : Field), fs[i]? = some f → DataW.trod enc P w base spare held fuel f.type ((cs.drop f.offset).take (P.cellsOf f.type)) = xs[k + i]?) →
    ∃ ds vs, Flds Ts ds ∧ FRs ds vs ∧ VRs [] (fun b => b < w.heap.size) w vs (cs.drop off)
  | [], [], off, k, _, hl, _, _ => ⟨[], [], .nil, ⟨rfl, fun j h => by simp at h⟩, by
      rw [List.drop_eq_nil_of_le (by simp [szTs] at hl; omega)]
      exact ⟨rfl, fun j h => by simp at h⟩⟩
  | f :: fs, T :: Ts, off, k, h, hl, hx, hf => by
    simp only [fieldsT, Bool.and_eq_true] at h
    obtain ⟨⟨⟨h1, h2⟩, h3⟩, h4⟩ := h
    have h1 := Nat.eq_of_beq_eq_true h1
    have h2 := Nat.eq_of_beq_eq_true h2
    have e0 := hf 0 f rfl
    simp only [List.length_cons] at hx
    simp only [szTs] at hl
    rw [Nat.add_zero, List.getElem?_eq_getElem (by omega)] at e0
    rw [h1, h2] at e0
    obtain ⟨d, vs, a1, a2⟩ := ih f.type T _ _ h3 e0
    obtain ⟨ds, us, b1, b2, b3⟩ := read_fields (cs := cs) (xs := xs) ih (k := k + 1) h4 (by omega) (by omega) (fun i g hg => by rw [hf (i + 1) g (by simpa using hg)]; congr 1; omega)
    refine ⟨explode T d ++ ds, vs ++ us, .cons d b1, a1.app b2, ?_⟩
    have e1 : cs.drop off = (cs.drop off).take (szT T) ++ cs.drop (off + szT T) := by rw [← List.drop_drop, List.take_append_drop]
    rw [e1]
    exact a2.append b3
  | [], _ :: _, _, _, h, _, _, _ => by simp [fieldsT] at h
  | _ :: _, [], _, _, h, _, _, _ => by simp [fieldsT] at h

theorem read_ty (hTM : TMOK P TM) : ∀ (fuel : Nat) (t : Nat) (T : Ty) (cs : List Value) (x : DataW H × List MemPlace), memT TM t T = true → DataW.trod enc P w base spare held fuel t cs = some x → Lies w T cs := by
  intro fuel
  induction fuel using Nat.strongRecOn with
  | ind fuel ih =>
    intro t T cs x hm h
    have hs := hTM _ (memT_iff hm)
    simp only at hs
    cases T with
    | i =>
      simp only [stepT] at hs
      split at hs
      · rename_i ht
        obtain ⟨n, rfl, _, wf⟩ := DataW.trod_int ht h
        exact lies1 (T := .i) (d := n) rfl .i (.lit wf)
      · cases hs
    | b =>
      simp only [stepT] at hs
      split at hs
      · rename_i ht
        obtain ⟨b, rfl, _⟩ := DataW.trod_bool ht h
        exact lies1 (T := .b) (d := b) rfl .b (.lit trivial)
      · cases hs
    | s =>
      simp only [stepT] at hs
      split at hs
      · rename_i ht
        obtain ⟨s, rfl, _, wf⟩ := DataW.trod_string ht h
        exact lies1 (T := .s) (d := s) rfl .s (.lit wf)
      · cases hs
    | u =>
      simp only [stepT] at hs
      split at hs
      · rename_i ht
        obtain ⟨n, rfl, _, wf⟩ := DataW.trod_int ht h
        exact lies1 (T := .u) (d := n) rfl .k (.lit wf)
      · cases hs
    | sl T =>
      simp only [stepT] at hs
      split at hs
      · rename_i e ht
        simp only [Bool.and_eq_true] at hs
        obtain ⟨⟨h1, h2⟩, h3⟩ := hs
        have h1 := Nat.eq_of_beq_eq_true h1
        have h2 : 0 < szT T := by simpa [Nat.blt_eq] using h2
        obtain ⟨v, rfl⟩ : ∃ v, cs = [v] := by
          rcases DataW.trod_slice ht h with ⟨hc, _⟩ | ⟨a, len, cap, elems, rest, n, _, hc, _⟩
          · exact ⟨_, hc⟩
          · exact ⟨_, hc⟩
        obtain ⟨A, len, cap, rfl, g1, g2, g3⟩ := read_slice ht h1 h2 h
        rcases Nat.eq_zero_or_pos len with rfl | hp
        · exact lies1 (T := .sl T) (d := []) rfl (FR.nil_ h2) (.imm0 g2)
        · obtain ⟨b, off, n, rfl, rfl, g4⟩ := g3 hp
          have key : ∀ i, i < len → ∃ q : I T × List V × List Value, FRs (explode T q.1) q.2.1 ∧ VRs [] (fun b => b < w.heap.size) w q.2.1 q.2.2 ∧ q.2.2.length = szT T ∧ ∀ j, j < szT T → w.cell? ⟨b, off + (i * szT T + j), none⟩ = q.2.2[j]? := fun i hi => by
            obtain ⟨cs, y, k1, k2, k3⟩ := g4 i hi
            obtain ⟨d, vs, k4, k5⟩ := ih n (by omega) e T cs y h3 k3
            exact ⟨(d, vs, cs), k4, k5, k1, k2⟩
          have : Inhabited (I T × List V × List Value) := ⟨Classical.choose (key 0 hp)⟩
          obtain ⟨F, hF⟩ := choose_lt (α := I T × List V × List Value) (n := len) (p := fun i q => FRs (explode T q.1) q.2.1 ∧ VRs [] (fun b => b < w.heap.size) w q.2.1 q.2.2 ∧ q.2.2.length = szT T ∧ ∀ j, j < szT T → w.cell? ⟨b, off + (i * szT T + j), none⟩ = q.2.2[j]?) key
          have hb : b < w.heap.size := by
            obtain ⟨_, _, f3, f4⟩ := hF 0 hp
            have := f4 0 h2
            rw [List.getElem?_eq_getElem (by omega)] at this
            rcases Nat.lt_or_ge b w.heap.size with h | h
            · exact h
            · simp [World.cell?, Array.getElem?_eq_none h] at this
          have hvl : ∀ i, i < len → (F i).2.1.length = szT T := fun i hi => by
            obtain ⟨_, f2, f3, _⟩ := hF i hi
            rw [← f2.1, f3]
          have hfr : FR (.l T ((List.range len).map fun i => (F i).1)) (.imm (szT T) ((List.range len).map fun i => (F i).2.1)) := by
            refine .l h2 (by simp) (fun e he => ?_) (fun m m1 m2 j j1 j2 => ?_)
            · obtain ⟨i, hi, rfl⟩ := List.mem_map.1 he
              exact hvl i (by simpa using hi)
            · have hm : m < len := by simpa using m1
              simp only [List.getElem_map, List.getElem_range] at j1 j2 ⊢
              exact (hF m hm).1.2 j j1 j2
          have hvr : VR (fun b => b < w.heap.size) w [] (.imm (szT T) ((List.range len).map fun i => (F i).2.1)) (.slice (some ⟨b, off, none⟩) len cap) := by
            have hl : ((List.range len).map fun i => (F i).2.1).length = len := by simp
            have := VR.imm (I := fun b => b < w.heap.size) (w := w) (ι := []) (s := szT T) (b := b) (off := off) (c := cap) (es := (List.range len).map fun i => (F i).2.1) (f := fun k j => (F k).2.2.getD j undef) (fun e he => by
              obtain ⟨i, hi, rfl⟩ := List.mem_map.1 he
              exact hvl i (by simpa using hi)) (by rw [hl]; exact g1) g2 hb (fun k j hk hj => by
              rw [hl] at hk
              obtain ⟨_, f2, f3, f4⟩ := hF k hk
              rw [f4 j hj, List.getElem?_eq_getElem (by omega)]
              simp [List.getD, f3, hj]) (fun k hk j hj => by
              have hk' : k < len := by simpa using hk
              simp only [List.getElem_map, List.getElem_range] at hj ⊢
              obtain ⟨_, f2, f3, _⟩ := hF k hk'
              obtain ⟨u, u1, u2⟩ := f2.2 j hj
              have : (F k).2.2.getD j undef = u := by simp [List.getD, u1]
              rw [this]
              exact u2)
            rw [hl] at this
            exact this
          exact lies1 (T := .sl T) (d := (List.range len).map fun i => (F i).1) rfl hfr hvr
      · cases hs
    | n k =>
      simp only [stepT] at hs
      split at hs
      · rename_i fs ht
        simp only [Bool.and_eq_true] at hs
        obtain ⟨⟨h1, h2⟩, h3⟩ := hs
        have h1 := Nat.eq_of_beq_eq_true h1
        have h2 : 0 < szT (.n k) := by simpa [Nat.blt_eq] using h2
        obtain ⟨xs, n, rfl, _, hcl, hxl, hf⟩ := DataW.trod_struct ht h
        obtain ⟨ds, vs, a1, a2, a3⟩ := read_fields (cs := cs) (xs := xs) (k := 0) (fun t T cs x => ih n (by omega) t T cs x) h3 (by rw [hcl, h1]; omega) (by simpa using hxl) (fun i f hi => by rw [Nat.zero_add]; exact hf i f (by simpa using hi))
        obtain ⟨d, rfl⟩ := flds_mk k ds h2 a1
        exact ⟨d, vs, a2, by simpa using a3⟩
      · cases hs
end

/-- A law that is called with data. -/
theorem calls_law {P : Program} {f : FuncId} {xs : List AT} (hc : CFn P f xs [] (.one (.b true)) []) {w : World} {avs : List AV} {vs : Array Value} (hx : ATRs [] [] xs avs) (hA : Abs.ARs [] (fun b => b < w.heap.size) w avs vs) :
    Calls P f vs w fun e w' => e = .returned (.bool true) ∧ Below w.heap.size w w' := by
  have hF := hc [] [] avs HpR.nil_ hx
  refine (hF.2 w (fun b => b < w.heap.size) [] vs (Abs.HR.nil _ w) (fun _ h => h) hA).mono ?_
  rintro e w' ⟨r, h', ι', I', c, ⟨ρ', hr, _, _⟩, rfl, D⟩
  obtain ⟨u, rfl, hu⟩ := hr.one'
  have e1 := hu.bool
  subst e1
  have := D.res.bool
  subst this
  exact ⟨rfl, ⟨D.os, D.tape, D.output, D.grown, fun b hb => D.frame b hb (Abs.noPass b)⟩⟩
/-- An argument that is a structure. -/
theorem arg_agg {w : World} {T : Ty} {v : Value} (hl : Lies w T v.cells.toList) (hv : ∃ cs, v = .agg cs) : ∃ (d : I T) (vs : List V), ATR [] [] (.agg (explode T d)) (.agg vs) ∧ Abs.AR [] (fun b => b < w.heap.size) w (.agg vs) v := by
  obtain ⟨cs, rfl⟩ := hv
  obtain ⟨d, vs, h1, h2⟩ := hl
  refine ⟨d, vs, .agg h1.cr, .agg (f := fun j => cs.getD j undef) (by have := h2.1; simpa [Value.cells] using this) (fun j hj => ?_) (fun j hj => ?_)⟩
  · have : j < cs.size := by have := h2.1; simp [Value.cells] at this; omega
    simp [this]
  · obtain ⟨u, u1, u2⟩ := h2.2 j hj
    have : cs.getD j undef = u := by
      simp [Value.cells] at u1
      simp [u1]
    rw [this]
    exact u2
/-- An argument of one cell. -/
theorem arg_one {w : World} {T : Ty} {v : Value} (hl : Lies w T v.cells.toList) (hv : v.cells = #[v]) {c : I T → C} (hT : ∀ d : I T, explode T d = [c d]) : ∃ (d : I T) (x : V), ATR [] [] (.one (c d)) (.one x) ∧ Abs.AR [] (fun b => b < w.heap.size) w (.one x) v := by
  obtain ⟨d, vs, h1, h2⟩ := hl
  rw [hT d] at h1
  rw [hv] at h2
  have hlen := h2.1
  match vs, h1, h2, hlen with
  | [x], h1, h2, _ =>
    obtain ⟨u, u1, u2⟩ := h2.2 0 (by simp)
    simp at u1
    subst u1
    exact ⟨d, x, .one (.fl (h1.2 0 (by simp) (by simp))), .one u2⟩
theorem ars_nil {w : World} : Abs.ARs [] (fun b => b < w.heap.size) w [] #[] := ⟨rfl, fun j h => by simp at h⟩
theorem ars_cons {w : World} {av : AV} {avs : List AV} {v : Value} {vs : List Value} (h : Abs.AR [] (fun b => b < w.heap.size) w av v) (k : Abs.ARs [] (fun b => b < w.heap.size) w avs vs.toArray) : Abs.ARs [] (fun b => b < w.heap.size) w (av :: avs) (v :: vs).toArray := by
  refine ⟨by have := k.1; simpa using this, fun j hj => ?_⟩
  cases j with
  | zero => exact ⟨v, by simp, h⟩
  | succ j =>
    obtain ⟨c, c1, c2⟩ := k.2 j (by simpa using hj)
    exact ⟨c, by simpa using c1, c2⟩
end Go.Proofs.YtagnfckihdlhpaaDoor.Den

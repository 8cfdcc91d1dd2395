/-
  Texts that the claim rests on, merged: DenK2, DenC, DenC2, DenG, Tb, ReadD.
-/
import Derived.Test.YtjafncnjefnloaaProg
import Derived.Test.YtjafncnjefnloaaZRowCons1
import Derived.Test.YtjafncnjefnloaaZRowCons11

/-
  The objects behind a call that was handed own objects; calls put together.
-/
namespace Go.Proofs.Ytjafncnjefnloaa.Den
open Go.RowKit
open Abs (V AV Env Heap ar)

theorem setAll_len : ∀ (ks : List Nat) (H xs : List Ob), (setAll H ks xs).length = H.length
  | [], H, xs => by simp [setAll]
  | k :: ks, H, [] => by simp [setAll]
  | k :: ks, H, x :: xs => by
    simp only [setAll]
    rw [setAll_len ks]
    split <;> simp
theorem setAll_out : ∀ (ks : List Nat) (H xs : List Ob) {id : Nat}, id ∉ ks → (setAll H ks xs)[id]? = H[id]?
  | [], H, xs, id, _ => by simp [setAll]
  | k :: ks, H, [], id, _ => by simp [setAll]
  | k :: ks, H, x :: xs, id, hn => by
    simp only [setAll]
    rw [setAll_out ks _ xs (fun h => hn (by simp [h]))]
    split
    · rw [List.getElem?_set_ne (fun e => hn (by simp [e]))]
    · rfl
theorem setAll_in : ∀ (ks : List Nat) (H xs : List Ob) {j id : Nat} {x o : Ob}, nodupB ks = true → ks[j]? = some id → xs[j]? = some x → H[id]? = some o → (setAll H ks xs)[id]? = some (o.bump x)
  | [], H, xs, j, id, x, o, _, hj, _, _ => by simp at hj
  | k :: ks, H, [], j, id, x, o, _, _, hx, _ => by simp at hx
  | k :: ks, H, y :: ys, j, id, x, o, hn, hj, hx, ho => by
    have hn' := hn
    simp only [nodupB, Bool.and_eq_true, Bool.not_eq_true'] at hn
    simp only [setAll]
    cases j with
    | zero =>
      simp at hj hx
      subst hj hx
      have hk : k ∉ ks := fun hm => by
        have := hn.1
        rw [List.contains_iff_mem.2 hm] at this
        cases this
      rw [setAll_out ks _ ys hk, ho]
      simp only
      exact List.getElem?_set_self (List.getElem?_eq_some_iff.1 ho).1
    | succ j =>
      have hne : k ≠ id := fun e => by
        have := nodup_inj hn' (i := 0) (j := j + 1) (x := id) (by simp [e]) hj
        omega
      refine setAll_in ks _ ys hn.2 (by simpa using hj) (by simpa using hx) ?_
      split
      · rw [List.getElem?_set_ne hne]; exact ho
      · exact ho
theorem bump_evo {x y : Ob} (h : evo0 x y) : evo x (x.bump y) := by
  rcases h with rfl | ⟨T, n, xs, n', xs', rfl, rfl, h⟩ | ⟨cs, ds, rfl, rfl⟩ | ⟨T, a, b, rfl, rfl⟩
  · exact .inl rfl
  · exact .inr (.inl ⟨T, n, xs, n + 1, xs', rfl, rfl, h, by omega, fun e => by omega⟩)
  · exact .inr (.inr (.inl ⟨_, _, rfl, rfl⟩))
  · exact .inr (.inr (.inr ⟨_, _, _, rfl, rfl⟩))
theorem bump_shape (o y : Ob) : (y = .gone → o.bump y = .gone) ∧ ∃ n, ∀ T m xs, y = .row T m xs → o.bump y = .row T n xs := by
  refine ⟨fun e => by subst e; rfl, ?_⟩
  cases o with
  | row T n xs => exact ⟨n + 1, fun T m xs e => by subst e; rfl⟩
  | box cs => exact ⟨0, fun T m xs e => by subst e; rfl⟩
  | map T kvs => exact ⟨0, fun T m xs e => by subst e; rfl⟩
  | gone => exact ⟨0, fun T m xs e => by subst e; rfl⟩
theorem ob_bump {ρ : Rho} {H : List Ob} (o : Ob) {y : Ob} {z : Option Abs.Ob} (h : obR ρ H y z) : obR ρ H (o.bump y) z := by
  cases y with
  | row T n xs => cases o <;> exact h
  | box cs => exact h
  | map T kvs => exact h
  | gone => exact h

section
variable {P : Program} {E : Abs.Cx} {F : In} {ρ ρ' : Rho} {H : List Ob} {D : List (Nat × AT)} {L : Env} {h h' : Heap} {R : Type}

theorem scal_flatC {c : C} (h : scal c = true) : flatC c = true := by cases c <;> first | rfl | cases h
theorem ATR.upS {ρ0 : Rho} {H0 : List Ob} {v : AT} {av : AV} (h : ATR ρ0 H0 v av) (hf : v.scal = true) : ATR ρ H v av := by
  induction h with
  | one k => exact .one (k.up (scal_flatC (by simpa [AT.scal] using hf)))
  | @agg cs vs k =>
    have hf : cs.all scal = true := by simpa [AT.scal] using hf
    exact .agg ⟨k.1, fun j h1 h2 => (k.2 j h1 h2).up (scal_flatC (List.all_eq_true.1 hf _ (List.getElem_mem h1)))⟩
  | @tup xs ys hl hr ih =>
    have hf := scals_mem (by simpa [AT.scal] using hf : AT.scal.scals xs = true)
    exact .tup hl (fun j h1 h2 => ih j h1 h2 (hf _ (List.getElem_mem h1)))

theorem back_ok {keep : List Nat} {Hc Hc' Hb : List Ob} (hp : HpR ρ H h) (hf : Fr F ρ H h) (hn : nodupB keep = true) (hk : pickH keep H = some Hc) (hp' : HpR ρ' Hc' h') (hf' : Fr ⟨h, pickρ ρ keep, Hc⟩ ρ' Hc' h')
    (hl : keep.length ≤ Hc'.length) (ho : obs (back keep H.length) Hc' = some Hb) :
    HpR (ρ ++ ρ'.drop keep.length) (setAll H keep Hb ++ Hb.drop keep.length) h' ∧ Ev ρ H (ρ ++ ρ'.drop keep.length) (setAll H keep Hb ++ Hb.drop keep.length) ∧ Fr F (ρ ++ ρ'.drop keep.length) (setAll H keep Hb ++ Hb.drop keep.length) h' ∧
      MvOK (back keep H.length) ρ' Hc' (ρ ++ ρ'.drop keep.length) (setAll H keep Hb ++ Hb.drop keep.length) := by
  obtain ⟨_, _, hρ⟩ := pick_ok hp hn hk
  obtain ⟨k1, k2⟩ := pickH_some hk
  obtain ⟨b1, b2⟩ := obs_some ho
  have hlen := hp.len
  have hlen' := hp'.len
  have lo : ∀ {id : Nat}, id < H.length → (setAll H keep Hb ++ Hb.drop keep.length)[id]? = (setAll H keep Hb)[id]? := fun hid => List.getElem?_append_left (by rw [setAll_len]; exact hid)
  have hi : ∀ (i : Nat), (setAll H keep Hb ++ Hb.drop keep.length)[H.length + i]? = Hb[keep.length + i]? := fun i => by
    rw [List.getElem?_append_right (by rw [setAll_len]; omega), setAll_len, List.getElem?_drop]
    congr 1; omega
  have loρ : ∀ {id : Nat}, id < H.length → (ρ ++ ρ'.drop keep.length)[id]? = ρ[id]? := fun hid => List.getElem?_append_left (by omega)
  have hiρ : ∀ (i : Nat), (ρ ++ ρ'.drop keep.length)[H.length + i]? = ρ'[keep.length + i]? := fun i => by
    rw [List.getElem?_append_right (by omega), hlen, List.getElem?_drop]
    congr 1; omega
  -- an object that was handed over
  have key : ∀ (j id : Nat), keep[j]? = some id → ∃ x0 y yb, H[id]? = some x0 ∧ Hc'[j]? = some y ∧ y.mv (back keep H.length) = some yb ∧ (setAll H keep Hb)[id]? = some (x0.bump yb) ∧ evo x0 (x0.bump yb) ∧ ρ'[j]? = ρ[id]? := fun j id hj => by
    obtain ⟨x0, y0, c1, c2, c3⟩ := k2 j id hj
    obtain ⟨y, d1, d2⟩ := hf'.ob j _ c3
    obtain ⟨yb, e1, e2⟩ := b2 j y d1
    have hidl : id < ρ.length := by rw [hlen]; exact (List.getElem?_eq_some_iff.1 c1).1
    have hz := List.getElem?_eq_getElem hidl
    refine ⟨x0, y, yb, c1, d1, e2, setAll_in keep H Hb hn hj e1 c1, bump_evo ((((mv_shape c2).2.2).trans (anew_shape y0).2.2).trans (d2.trans (mv_shape e2).2.2)), ?_⟩
    rw [hz]
    refine hf'.rho j _ ?_
    show (pickρ ρ keep)[j]? = _
    rw [hρ j id hj, hz]
  have hev : Ev ρ H (ρ ++ ρ'.drop keep.length) (setAll H keep Hb ++ Hb.drop keep.length) := by
    refine ⟨fun id x hx => ?_, fun id x hx => ?_⟩
    · rw [loρ (by rw [← hlen]; exact (List.getElem?_eq_some_iff.1 hx).1)]; exact hx
    · rw [lo (List.getElem?_eq_some_iff.1 hx).1]
      by_cases hm : id ∈ keep
      · obtain ⟨j, hj⟩ := List.getElem?_of_mem hm
        obtain ⟨x0, y, yb, c1, _, _, c4, c5, _⟩ := key j id hj
        rw [hx] at c1
        cases c1
        exact ⟨_, c4, c5⟩
      · rw [setAll_out keep H Hb hm]
        exact ⟨x, hx, evo.refl x⟩
  have hmv : MvOK (back keep H.length) ρ' Hc' (ρ ++ ρ'.drop keep.length) (setAll H keep Hb ++ Hb.drop keep.length) := fun id j hg => by
    unfold back at hg
    split at hg
    · rename_i hlt
      obtain ⟨x0, y, yb, c1, c2, c3, c4, c5, c6⟩ := key id j hg
      have hj := (List.getElem?_eq_some_iff.1 c1).1
      refine ⟨fun x hx => by rw [loρ hj, ← c6]; exact hx, fun x hx => ?_⟩
      rw [c2] at hx
      cases hx
      obtain ⟨s1, n, s2⟩ := bump_shape x0 yb
      obtain ⟨t1, t2, _⟩ := mv_shape c3
      exact ⟨_, n, by rw [lo hj]; exact c4, fun e => s1 (t1 e), fun T m xs e => s2 T m xs (t2 T m xs e)⟩
    · rename_i hge
      have hge : keep.length ≤ id := by simpa [Nat.blt_eq] using hge
      cases hg
      have e : keep.length + (id - keep.length) = id := by omega
      refine ⟨fun x hx => by rw [hiρ, e]; exact hx, fun x hx => ?_⟩
      obtain ⟨yb, e1, e2⟩ := b2 id x hx
      obtain ⟨t1, t2, _⟩ := mv_shape e2
      cases x with
      | row T m xs => exact ⟨yb, m, by rw [hi, e]; exact e1, fun e => (by cases e), fun T m xs e => by cases e; exact t2 _ _ _ rfl⟩
      | gone => exact ⟨yb, 0, by rw [hi, e]; exact e1, t1, fun T m xs e => (by cases e)⟩
      | box cs => exact ⟨yb, 0, by rw [hi, e]; exact e1, t1, fun T m xs e => (by cases e)⟩
      | map T kvs => exact ⟨yb, 0, by rw [hi, e]; exact e1, t1, fun T m xs e => (by cases e)⟩
  have newρ : ∀ (id a : Nat), (ρ ++ ρ'.drop keep.length)[id]? = some (some a) → (id < H.length ∧ ρ[id]? = some (some a)) ∨ ∃ i, id = H.length + i ∧ ρ'[keep.length + i]? = some (some a) ∧ h.length ≤ a := fun id a ha => by
    by_cases hid : id < H.length
    · rw [loρ hid] at ha; exact .inl ⟨hid, ha⟩
    · obtain ⟨i, rfl⟩ : ∃ i, id = H.length + i := ⟨id - H.length, by omega⟩
      rw [hiρ] at ha
      refine .inr ⟨i, rfl, ha, Nat.le_of_not_lt fun hlt => ?_⟩
      have := hf'.old _ a ha hlt
      have := (List.getElem?_eq_some_iff.1 this).1
      simp [pickρ] at this
      omega
  have hsame : ∀ (a : Nat), a < h.length → (∀ (id : Nat), ρ[id]? = some (some a) → id ∉ keep) → h'[a]? = h[a]? := fun a ha hid => hf'.same a ha fun j hj => by
    have hj : (pickρ ρ keep)[j]? = some (some a) := hj
    have hlt := (List.getElem?_eq_some_iff.1 hj).1
    simp [pickρ] at hlt
    have e := List.getElem?_eq_getElem hlt
    rw [hρ j _ e] at hj
    exact hid _ hj (List.getElem_mem hlt)
  refine ⟨HpR.mk' ?_ (fun id x hx => ?_) (fun i j a h1 h2 => ?_) (fun i a h1 => ?_), hev, hf.step hev hf'.len (fun id a ha => ?_) (fun a ha hid => hsame a ha fun id hid' => absurd hid' (hid id)), hmv⟩
  · simp [setAll_len]; omega
  · by_cases hid : id < H.length
    · rw [lo hid] at hx
      rw [loρ hid]
      by_cases hm : id ∈ keep
      · obtain ⟨j, hj⟩ := List.getElem?_of_mem hm
        obtain ⟨x0, y, yb, c1, c2, c3, c4, c5, c6⟩ := key j id hj
        rw [c4] at hx
        cases hx
        rcases hp'.ob c2 with ⟨a, z, m1, m2, m3⟩ | ⟨m1, T, n, rfl, m3⟩ | rfl
        · exact .inl ⟨a, z, by rw [← c6]; exact m1, m2, ob_bump _ (ob_mv hmv m3 c3)⟩
        · cases c3
          obtain ⟨_, n', s2⟩ := bump_shape x0 (.row T n [])
          exact .inr (.inl ⟨by rw [← c6]; exact m1, T, n', s2 _ _ _ rfl, m3⟩)
        · cases c3
          exact .inr (.inr rfl)
      · rw [setAll_out keep H Hb hm] at hx
        rcases hp.ob hx with ⟨a, z, m1, m2, m3⟩ | m1 | m1
        · refine .inl ⟨a, z, m1, ?_, m3.mono hev⟩
          rw [hsame a (hp.lt _ _ m1) (fun id' h' => by rw [hp.inj _ _ _ h' m1]; exact hm)]
          exact m2
        · exact .inr (.inl m1)
        · exact .inr (.inr m1)
    · obtain ⟨i, rfl⟩ : ∃ i, id = H.length + i := ⟨id - H.length, by omega⟩
      rw [hi] at hx
      rw [hiρ]
      have hlt := (List.getElem?_eq_some_iff.1 hx).1
      rw [b1] at hlt
      have e := List.getElem?_eq_getElem hlt
      obtain ⟨yb, e1, e2⟩ := b2 _ _ e
      rw [e1] at hx
      cases hx
      rcases hp'.ob e with ⟨a, z, m1, m2, m3⟩ | ⟨m1, T, n, m2, m3⟩ | m1
      · exact .inl ⟨a, z, m1, m2, ob_mv hmv m3 e2⟩
      · rw [m2] at e2
        cases e2
        exact .inr (.inl ⟨m1, T, n, rfl, m3⟩)
      · rw [m1] at e2
        cases e2
        exact .inr (.inr rfl)
  · rcases newρ i a h1 with ⟨i1, i2⟩ | ⟨p, rfl, i2, i3⟩ <;> rcases newρ j a h2 with ⟨j1, j2⟩ | ⟨q, rfl, j2, j3⟩
    · exact hp.inj _ _ _ i2 j2
    · have := hp.lt _ _ i2; omega
    · have := hp.lt _ _ j2; omega
    · have := hp'.inj _ _ _ i2 j2; omega
  · rcases newρ i a h1 with ⟨i1, i2⟩ | ⟨p, rfl, i2, i3⟩
    · have := hp.lt _ _ i2; have := hf'.len; simp only at this; omega
    · exact hp'.lt _ _ i2
  · rcases newρ id a ha with ⟨_, i2⟩ | ⟨p, rfl, i2, i3⟩
    · exact .inl i2
    · exact .inr i3

section
variable {d f : Nat} {x : Operand} {args : List Operand} {tys : Array TypeId} {ty : TypeId} {pos : String} {af : Array Edge} {gd : Option (Nat × Bool)} {caps : List C} {xs ys : List AT} {v : AT} {H' : List Ob}
theorem callEv (hx : ev D x = some (.one (.f f caps))) (hxs : evs D args = some xs) (hs : EncL ρ H D L) : ∃ vs avs, Abs.ev L x = some (.one (.clo (.func f) vs)) ∧ Abs.evs L args = some avs ∧ ATRs ρ H (xs ++ caps.map .one) (avs ++ vs.map .one) := by
  obtain ⟨av, h1, h2⟩ := ev_ok hs hx
  obtain ⟨u, rfl, h3⟩ := h2.one'
  obtain ⟨vs, rfl, h4⟩ := h3.clo
  obtain ⟨avs, h5, h6⟩ := evs_ok hs hxs
  exact ⟨vs, avs, h1, h5, ATRs.app h6 h4.ats⟩
theorem callS_ok (hn : d < E.n) (hx : ev D x = some (.one (.f f caps))) (hxs : evs D args = some xs) (hy : peekAs H (xs ++ caps.map .one) = some ys) (hsc : v.scal = true) (h2 : CFn P f ys [] v H') : OpOK P ⟨some d, .call ⟨.value x, args.toArray, tys⟩, ty, pos, af, gd⟩ E F D H v H := fun ρ L h hs hp hf => by
  obtain ⟨vs, avs, e1, e2, e3⟩ := callEv hx hxs hs
  obtain ⟨bvs, k1, k2, k3, k4, k5⟩ := peekAs_ok (E := E) (L := L) hp hy e3.1 e3.2
  refine Abs.ar_borrowV e1 e2 hn (h2 [] [] bvs HpR.nil_ ⟨k1, k2⟩) (fun r h' ⟨ρ', m1, _⟩ => scal_ok m1 hsc) (fun ι I a w r cs hcs => ⟨by rw [hcs.1, k4], fun j hj => ?_⟩) (fun r h' ⟨ρ', m1, _⟩ => ⟨ρ, r, rfl, m1.upS hsc, hp, Ev.refl _ _, hf⟩)
  obtain ⟨c, c1, c2⟩ := hcs.2 j (by rw [k4]; exact hj)
  exact ⟨c, c1, k5 j _ hj ι I a w r c c2⟩
theorem callL_ok (hn : d < E.n) (hx : ev D x = some (.one (.f f caps))) (hxs : evs D args = some xs) (hy : peekAs [] (xs ++ caps.map .one) = some ys) (hfl : v.flat = true) (h2 : CFn P f ys [] v H') : OpOK P ⟨some d, .call ⟨.value x, args.toArray, tys⟩, ty, pos, af, gd⟩ E F D H v H := fun ρ L h hs hp hf => by
  obtain ⟨vs, avs, e1, e2, e3⟩ := callEv hx hxs hs
  obtain ⟨bvs, k1, k2, k3⟩ := peekAs0_ok hy e3
  refine Abs.ar_callV e1 e2 hn (h2 [] h bvs HpR.nil_ k1) (fun ι I w cs hcs => k3.ars hcs) (fun r h' ⟨ρ', m1, m2, m3⟩ => ?_)
  have hsame : ∀ a, a < h.length → h'[a]? = h[a]? := fun a ha => m3.same a ha (fun id => by simp)
  exact ⟨ρ, r, rfl, m1.up hfl, hp.ext m3.len hsame, Ev.refl _ _, hf.ext m3.len hsame⟩
end

/-- What an operation leaves as it is. -/
def Unt (ids : List Nat) (H H' : List Ob) : Prop := ∀ (id : Nat) (x : Ob), H[id]? = some x → id ∉ ids → H'[id]? = some x
theorem Unt.refl (ids : List Nat) (H : List Ob) : Unt ids H H := fun _ _ h _ => h
theorem convs_pre {O : Orc} {f : Nat} : ∀ {j : Nat} {xs ys : List AT} {H H' : List Ob}, convs O f j xs H = some (ys, H') → ∃ t, H' = H ++ t
  | j, [], ys, H, H', hc => by simp only [convs] at hc; cases hc; exact ⟨[], by simp⟩
  | j, x :: xs, ys, H, H', hc => by
    unfold convs at hc
    split at hc
    · split at hc
      · rename_i h2; cases hc; exact convs_pre h2
      · cases hc
    · split at hc
      · split at hc
        · rename_i h2
          cases hc
          obtain ⟨t, rfl⟩ := convs_pre h2
          exact ⟨_, List.append_assoc _ _ _⟩
        · cases hc
      · split at hc
        · rename_i h2; cases hc; exact convs_pre h2
        · cases hc
theorem callD_ok {O : Orc} (hO : OrcOK P O) {o : Oper} {d : Nat} (hd : o.dst = some d) (hn : d < E.n) {K : AT → List Ob → Option R} {r : R} (hc : callD O o D H K = some r) : ∃ v H', K v H' = some r ∧ OpOK P o E F D H v H' ∧ Unt (touch O o D H) H H' := by
  obtain ⟨dst, op, ty, pos, af, gd⟩ := o
  simp only at hd
  subst hd
  unfold callD at hc
  simp only at hc
  split at hc
  · rename_i x args tys
    split at hc
    · rename_i f caps xs hx hxs
      obtain ⟨args, rfl⟩ : ∃ l : List Operand, args = l.toArray := ⟨args.toList, by simp⟩
      simp only at hxs
      unfold callF at hc
      split at hc
      · split at hc
        · rename_i ys hy
          obtain ⟨v, H', h1, h2⟩ := hO _ _ _ _ _ _ hc
          split at h1
          · rename_i hsc
            exact ⟨v, H, h1, callS_ok hn hx hxs hy hsc h2, .refl _ _⟩
          · cases h1
        · cases hc
      · split at hc
        · rename_i ys hy
          obtain ⟨v, H', h1, h2⟩ := hO _ _ _ _ _ _ hc
          split at h1
          · rename_i hfl
            exact ⟨v, H, h1, callL_ok hn hx hxs hy hfl h2, .refl _ _⟩
          · cases h1
        · cases hc
      · rename_i m hmode
        split at hc
        · rename_i ys H1 hcv
          simp only at hc
          split at hc
          · rename_i Hc zs hnd hpk hmv
            obtain ⟨v, Hc', h1, h2⟩ := hO _ _ _ _ _ _ hc
            split at h1
            · rename_i Hb u hb1 hb2 hb3
              refine ⟨u, _, h1, fun ρ L h hs hp hf => ?_, fun id x hx0 hni => ?_⟩
              case refine_2 =>
                simp only [touch, hx, hxs, hmode, hcv] at hni
                obtain ⟨t, rfl⟩ := convs_pre hcv
                have hlt := (List.getElem?_eq_some_iff.1 hx0).1
                rw [List.getElem?_append_left (by rw [setAll_len]; simp; omega), setAll_out _ _ _ hni, List.getElem?_append_left hlt]
                exact hx0
              obtain ⟨vs, avs, e1, e2, e3⟩ := callEv hx hxs hs
              obtain ⟨ρ1, bvs, m1, m2, m3⟩ := convs_ok hcv hp hf e3
              obtain ⟨c1, c2, c3⟩ := pick_ok m1.heap hnd hpk
              obtain ⟨d1, d2⟩ := mvA_some hmv
              refine Abs.ar_callV e1 e2 hn (h2 _ h bvs c1 ⟨by rw [d1]; exact m2.1, fun j j1 j2 => atr_mv c2 (m2.2 j (by omega) j2) (d2 j (by omega) j1)⟩) (fun ι I w cs hcs => m3.ars hcs) (fun r h' ⟨ρ', n1, n2, n3⟩ => ?_)
              obtain ⟨p1, p2, p3, p4⟩ := back_ok m1.heap m1.fr hnd hpk n2 n3 (Nat.le_of_ble_eq_true hb1) hb2
              exact ⟨_, r, rfl, atr_mv p4 n1 hb3, p1, m1.ev.trans p2, p3⟩
            · cases h1
          · cases hc
        · cases hc
    · cases hc
  · cases hc
/-- Objects that are seen are there. -/
def Le (Hm H : List Ob) : Prop := ∀ (id : Nat) (x : Ob), Hm[id]? = some x → x ≠ .gone → H[id]? = some x
theorem Le.refl (H : List Ob) : Le H H := fun _ _ h _ => h
theorem Le.nil_ (H : List Ob) : Le [] H := fun _ _ h _ => by simp at h
theorem Le.unt {Hm H H' : List Ob} {ids : List Nat} (h : Le Hm H) (u : Unt ids H H') (hs : ids.all (unseen Hm) = true) : Le Hm H' := fun id x hx hg => by
  refine u id x (h id x hx hg) fun hm => ?_
  have := List.all_eq_true.1 hs id hm
  unfold unseen at this
  rw [hx] at this
  cases x <;> first | exact hg rfl | cases this
theorem Le.trans {A B H : List Ob} (h : Le A B) (k : Le B H) : Le A H := fun id x hx hg => k id x (h id x hx hg) hg
theorem hideH_le (ids : List Nat) (H : List Ob) : Le (hideH ids H) H := fun id x hx hg => by
  unfold hideH at hx
  rw [List.getElem?_mapIdx] at hx
  obtain ⟨o, h1, h2⟩ := Option.map_eq_some_iff.1 hx
  split at h2
  · exact absurd h2.symm hg
  · rw [h1, h2]
theorem Le.hide {Hd H H' : List Ob} {ids : List Nat} (h : Le Hd H) (u : Unt ids H H') : Le (hideH ids Hd) H' := fun id x hx hg => by
  refine u id x (h id x (hideH_le ids Hd id x hx hg) hg) fun hm => hg ?_
  unfold hideH at hx
  rw [List.getElem?_mapIdx] at hx
  obtain ⟨o, _, h2⟩ := Option.map_eq_some_iff.1 hx
  rw [if_pos (by simpa using hm)] at h2
  exact h2.symm
theorem maskH_le (vis : List Nat) (H : List Ob) : Le (maskH vis H) H := fun id x hx hg => by
  unfold maskH at hx
  rw [List.getElem?_mapIdx] at hx
  obtain ⟨o, h1, h2⟩ := Option.map_eq_some_iff.1 hx
  split at h2
  · rw [h1, h2]
  · exact absurd h2.symm hg
theorem peek_mono {Hm H : List Ob} (hl : Le Hm H) {c c' : C} (h : peek Hm c = some c') : peek H c = some c' := by
  unfold peek at h ⊢
  split at h
  case h_3 =>
    split at h
    · rename_i hx
      rw [hl _ _ hx (by simp)]
      exact h
    · cases h
  all_goals exact h
theorem peeks_mono {Hm H : List Ob} (hl : Le Hm H) : ∀ {cs ds : List C}, peeks Hm cs = some ds → peeks H cs = some ds
  | [], ds, h => h
  | c :: cs, ds, h => by
    simp only [peeks] at h ⊢
    split at h
    · rename_i x xs h1 h2
      rw [peek_mono hl h1, peeks_mono hl h2]
      exact h
    · cases h
theorem peekA_mono {Hm H : List Ob} (hl : Le Hm H) {x y : AT} (h : peekA Hm x = some y) : peekA H x = some y := by
  cases x with
  | one c =>
    simp only [peekA, Option.map_eq_some_iff] at h ⊢
    obtain ⟨c', h1, rfl⟩ := h
    exact ⟨c', peek_mono hl h1, rfl⟩
  | agg cs =>
    simp only [peekA, Option.map_eq_some_iff] at h ⊢
    obtain ⟨c', h1, rfl⟩ := h
    exact ⟨c', peeks_mono hl h1, rfl⟩
  | tup _ => cases h
theorem peekAs_mono {Hm H : List Ob} (hl : Le Hm H) : ∀ {xs ys : List AT}, peekAs Hm xs = some ys → peekAs H xs = some ys
  | [], ys, h => h
  | x :: xs, ys, h => by
    simp only [peekAs] at h ⊢
    split at h
    · rename_i y ys h1 h2
      rw [peekA_mono hl h1, peekAs_mono hl h2]
      exact h
    · cases h
/-- Calls that leave the own objects as they are. -/
theorem callK_ok {O : Orc} (hO : OrcOK P O) {o : Oper} {d : Nat} (hd : o.dst = some d) (hn : d < E.n) (hk : keeps O o D = true) {K : AT → List Ob → Option R} {r : R} (hc : callD O o D H K = some r) : ∃ v, K v H = some r ∧ ∀ H', Le H H' → OpOK P o E F D H' v H' := by
  obtain ⟨dst, op, ty, pos, af, gd⟩ := o
  simp only at hd
  subst hd
  unfold callD at hc
  simp only at hc
  split at hc
  · rename_i x args tys
    split at hc
    · rename_i f caps xs hx hxs
      obtain ⟨args, rfl⟩ : ∃ l : List Operand, args = l.toArray := ⟨args.toList, by simp⟩
      simp only at hxs
      simp only [keeps, hx] at hk
      unfold callF at hc
      split at hc
      · split at hc
        · rename_i ys hy
          obtain ⟨v, H', h1, h2⟩ := hO _ _ _ _ _ _ hc
          split at h1
          · rename_i hsc
            exact ⟨v, h1, fun H2 hl => callS_ok hn hx hxs (peekAs_mono hl hy) hsc h2⟩
          · cases h1
        · cases hc
      · split at hc
        · rename_i ys hy
          obtain ⟨v, H', h1, h2⟩ := hO _ _ _ _ _ _ hc
          split at h1
          · rename_i hfl
            exact ⟨v, h1, fun H2 _ => callL_ok hn hx hxs hy hfl h2⟩
          · cases h1
        · cases hc
      · rename_i m hm
        rw [hm] at hk
        simp [Nat.blt_eq] at hk
        omega
    · cases hc
  · cases hc
end
end Go.Proofs.Ytjafncnjefnloaa.Den

/-
  den is right: code, in den's words, does what den says.
-/
namespace Go.Proofs.Ytjafncnjefnloaa.Den
open Go.RowKit
open Abs (V AV Env Heap ar aw ao)

section
variable {P : Program} {E : Abs.Cx} {F : In} {ρ ρ' : Rho} {H : List Ob} {D : List (Nat × AT)} {L : Env} {h h' : Heap} {R : Type} {tb : Nat → Option TI} {O : Orc}

theorem lenC_mono {Hm H : List Ob} (hl : Le Hm H) {c : C} {n : Int} (h : lenC Hm c = some n) : lenC H c = some n := by
  unfold lenC at h ⊢
  split at h
  case h_5 =>
    split at h
    · rename_i hx
      rw [hl _ _ hx (by simp)]
      exact h
    · cases h
  all_goals exact h
theorem valD_mono {Hm H : List Ob} (hl : Le Hm H) {o : Oper} {v : AT} (hv : (valD tb o D Hm).has v) : (valD tb o D H).has v := by
  unfold valD at hv ⊢
  split at hv
  all_goals first
    | exact hv
    | (cases hv; done)
    | skip
  · split at hv
    · exact hv
    · exact hv
    · split at hv
      · rename_i hx hf
        rw [hl _ _ hx (by simp), hf]
        exact hv
      · cases hv
    · exact hv.elim
  · split at hv
    · split at hv
      · rename_i hx
        rw [hl _ _ hx (by simp)]
        exact hv
      · cases hv
    · exact hv
    · split at hv
      · rename_i hx
        rw [hl _ _ hx (by simp)]
        exact hv
      · cases hv
    · exact hv.elim
  · split at hv
    · exact hv
    · split at hv
      · rename_i hx
        rw [hl _ _ hx (by simp)]
        exact hv
      · cases hv
    · exact hv.elim
  · split at hv
    · exact hv
    · exact valX_mono hl hv
  · split at hv
    · split at hv
      · exact hv
      · exact valX_mono hl hv
    · exact valX_mono hl hv
  · split at hv
    · split at hv
      · exact hv
      · split at hv
        · rename_i h1 h2
          rw [lenC_mono hl h2, h1]
          exact hv
        · cases hv
      · cases hv
    · cases hv
  · exact valX_mono hl hv

theorem effX_unt {o : Oper} {v : AT} {H' : List Ob} (hv : (effX tb o.op D H).has (v, H')) : Unt (touch O o D H) H H' := by
  have push : ∀ x : Ob, Unt (touch O o D H) H (H ++ [x]) := fun x id y hy _ => app_get hy
  unfold effX at hv
  split at hv
  · split at hv
    · cases hv; exact push _
    · cases hv
  · rename_i args tys ho
    split at hv
    · rename_i x y t tx ha ht
      split at hv
      · split at hv
        · obtain ⟨_, _, e⟩ := hv; cases e; exact push _
        · cases hv
      · rename_i id s h1 h2 h3
        split at hv
        · obtain ⟨_, _, e⟩ := hv
          cases e
          intro j z hz hn
          simp only [touch, ho, ha, h2] at hn
          exact app_get (by rw [List.getElem?_set_ne (fun e => hn (by simp [e]))]; exact hz)
        · cases hv
      · split at hv
        · obtain ⟨_, _, e⟩ := hv; cases e; exact push _
        · cases hv
      · cases hv
    · cases hv
  · cases hv
theorem opX_unt {o : Oper} {H' : List Ob} (hv : (opX tb o.op D H).has H') : Unt (touch O o D H) H H' := by
  unfold opX at hv
  split at hv
  · rename_i t m k x ho
    split at hv
    · rename_i T id s vs h1 h2 h3 h4
      have set : ∀ {z : Ob}, Unt (touch O o D H) H (H.set id z) := fun {z} j w hw hn => by
        rw [List.getElem?_set_ne (fun e => hn (by simp [touch, ho, h2, e]))]; exact hw
      split at hv
      · split at hv
        · split at hv
          · cases hv; exact set
          · cases hv
        · split at hv
          · cases hv
          · cases hv; exact set
        · cases hv
      · cases hv
    · cases hv
  · cases hv
theorem effD_unt {o : Oper} {v : AT} {H' : List Ob} (hv : (effD tb o D H).has (v, H')) : Unt (touch O o D H) H H' := by
  have push : ∀ x : Ob, Unt (touch O o D H) H (H ++ [x]) := fun x id y hy _ => app_get hy
  unfold effD at hv
  split at hv
  · split at hv
    · cases hv; exact push _
    · cases hv
  · split at hv
    · cases hv; exact push _
    · cases hv
  · split at hv
    · split at hv
      · split at hv
        · cases hv; exact push _
        · cases hv
      · cases hv
    · cases hv
  · split at hv
    · split at hv
      · obtain ⟨_, _, e⟩ := hv; cases e; exact push _
      · cases hv
    · cases hv
  · rename_i args tys ho
    split at hv
    · rename_i x y t tx ha ht
      split at hv
      · rename_i T U cx cy h1 h2 h3 h4
        split at hv
        · split at hv
          · rename_i id
            split at hv
            · split at hv
              · obtain ⟨_, _, e⟩ := hv
                cases e
                intro j z hz hn
                simp only [touch, ho, ha, h3] at hn
                exact app_get (by rw [List.getElem?_set_ne (fun e => hn (by simp [e]))]; exact hz)
              · cases hv
            · cases hv
          · obtain ⟨_, _, e⟩ := hv; cases e; exact push _
          · exact effX_unt hv
        · cases hv
      · exact effX_unt hv
    · cases hv
  · exact effX_unt hv
theorem opN_unt {o : Oper} {H' : List Ob} (hv : (opN tb o D H).has H') : Unt (touch O o D H) H H' := by
  unfold opN at hv
  split at hv
  · rename_i t x y ho
    have set : ∀ {id : Nat} {z : Ob}, (∀ j, j ∉ touch O o D H → j ≠ id) → Unt (touch O o D H) H (H.set id z) := fun hne j w hw hn => by
      rw [List.getElem?_set_ne (fun e => hne j hn e.symm)]; exact hw
    split at hv
    · rename_i h2 h3
      split at hv
      · split at hv
        · cases hv
          exact set fun j hj e => hj (by simp [touch, ho, h2, e])
        · cases hv
      · cases hv
    · rename_i ti id k n T e0 off vs h1 h2 h3
      have hs : ∀ {z : Ob}, Unt (touch O o D H) H (H.set id z) := fun {z} => set (z := z) fun j hj e => hj (by simp only [touch, ho, h2]; simp [e])
      split at hv
      · split at hv
        · split at hv
          · split at hv
            · split at hv
              · split at hv
                · cases hv; exact hs
                · cases hv
              · obtain ⟨e', e1, e2⟩ := hv
                dsimp only at e2
                split at e2
                · cases e2; exact hs
                · cases e2
            · cases hv
          · cases hv
        · cases hv
      · cases hv
    · cases hv
  · exact opX_unt hv

theorem one_ok (htb : TBOK P tb) (hO : OrcOK P O) {nt : Nat} (hE : E.n = nt) {o : Oper} {K : AT → List Ob → Option R} {r : R} (hc : one tb O nt o D H K = some r) : ∃ v H', K v H' = some r ∧ OpOK P o E F D H v H' ∧ Unt (touch O o D H) H H' := by
  unfold one at hc
  split at hc
  · rename_i d hd
    split at hc
    · rename_i hlt
      have hn : d < E.n := by rw [hE]; simpa [Nat.blt_eq] using hlt
      unfold opD at hc
      split at hc
      · obtain ⟨v, h1, h2⟩ := Pl.run_has hc
        exact ⟨v, H, h2, val_op fun ρ L h hs hp => valD_ok htb hd hn h1 hs hp, .refl _ _⟩
      · obtain ⟨q, h1, h2⟩ := Pl.run_has hc
        exact ⟨q.1, q.2, h2, effD_ok htb hd hn h1, effD_unt h1⟩
      · exact callD_ok hO hd hn hc
    · cases hc
  · rename_i hd
    obtain ⟨H', h1, h2⟩ := Pl.run_has hc
    exact ⟨_, H', h2, opN_ok htb hd h1, opN_unt h1⟩
theorem oneK_ok (htb : TBOK P tb) (hO : OrcOK P O) {nt : Nat} (hE : E.n = nt) {o : Oper} (hk : keeps O o D = true) {K : AT → List Ob → Option R} {r : R} (hc : one tb O nt o D H K = some r) : ∃ v, K v H = some r ∧ ∀ H', Le H H' → OpOK P o E F D H' v H' := by
  unfold one at hc
  split at hc
  · rename_i d hd
    split at hc
    · rename_i hlt
      have hn : d < E.n := by rw [hE]; simpa [Nat.blt_eq] using hlt
      unfold opD at hc
      split at hc
      · obtain ⟨v, h1, h2⟩ := Pl.run_has hc
        exact ⟨v, h2, fun H' hl => val_op fun ρ L h hs hp => valD_ok htb hd hn (valD_mono hl h1) hs hp⟩
      · rename_i h1
        exfalso
        unfold keeps at hk
        rw [hd] at hk
        simp only at hk
        split at hk
        · rename_i e; rw [e] at h1; simp [kind] at h1
        · rw [h1] at hk; cases hk
      · exact callK_ok hO hd hn hk hc
    · cases hc
  · rename_i hd
    unfold keeps at hk
    rw [hd] at hk
    cases hk
theorem oneI_ok (htb : TBOK P tb) {nt : Nat} (hE : E.n = nt) {o : Oper} {K : AT → Option R} {r : R} (hc : oneI tb nt o D K = some r) : ∃ v, K v = some r ∧ ∀ H, OpOK P o E F D H v H := by
  unfold oneI at hc
  split at hc
  · rename_i d hd
    split at hc
    · rename_i hlt
      have hn : d < E.n := by rw [hE]; simpa [Nat.blt_eq] using hlt
      obtain ⟨v, h1, h2⟩ := Pl.run_has hc
      exact ⟨v, h2, fun H => immD_ok htb hd hn h1⟩
    · cases hc
  · cases hc

theorem bindA_enc {dst : Option Nat} {v : AT} {av : AV} (hs : EncL ρ H D L) (hv : ATR ρ H v av) : EncL ρ H (bindA dst v D) (Abs.bindD dst av L) := by
  cases dst with
  | none => exact hs
  | some d =>
    intro t x hx
    simp only [bindA, List.lookup_cons] at hx
    simp only [Abs.bindD, List.lookup_cons]
    split at hx
    · cases hx; exact ⟨av, rfl, hv⟩
    · exact hs t x hx
theorem gsl_slot {l : List Oper} {j : Nat} : gsl l j = Abs.gslot l.toArray j := by
  unfold gsl Abs.gslot
  simp only [List.getElem?_toArray]
  cases l[j]? <;> rfl
theorem enc_b {d : Nat} {p : Bool} (hs : EncL ρ H D L) (h : D.lookup d = some (.one (.b p))) : L.lookup d = some (.one (.lit (.bool p))) := by
  obtain ⟨av, h1, h2⟩ := hs d _ h
  obtain ⟨u, rfl, h3⟩ := h2.one'
  rw [h1, h3.bool]
theorem enc_u {d : Nat} (hs : EncL ρ H D L) (h : D.lookup d = some (.tup [])) : L.lookup d = some (.tup []) := by
  obtain ⟨av, h1, h2⟩ := hs d _ h
  cases h2 with
  | @tup xs ys hl hr =>
    cases ys with
    | nil => exact h1
    | cons _ _ => simp at hl

/-- A guard says: run, or skip. -/
inductive Gd (ops : Array Oper) (n : Nat) (o : Oper) (D : List (Nat × AT)) : Bool → Prop
  | run (h : o.guard = none) : Gd ops n o D true
  | runG {j d : Nat} {want : Bool} (h : o.guard = some (j, want)) (hj : Abs.gslot ops j = some d) (hd : D.lookup d = some (.one (.b want))) : Gd ops n o D true
  | skip {j d d' : Nat} {p want : Bool} (h : o.guard = some (j, want)) (hj : Abs.gslot ops j = some d) (hd : D.lookup d = some (.one (.b p))) (hp : p = !want) (hdst : o.dst = some d') (hn : d' < n) : Gd ops n o D false
  | skipU {j d d' : Nat} {want : Bool} (h : o.guard = some (j, want)) (hj : Abs.gslot ops j = some d) (hd : D.lookup d = some (.tup [])) (hdst : o.dst = some d') (hn : d' < n) : Gd ops n o D false
/-- The same slots. -/
def Same (D D' : List (Nat × AT)) : Prop := ∀ t, D.lookup t = D'.lookup t
theorem Same.refl (D : List (Nat × AT)) : Same D D := fun _ => rfl
theorem Same.symm {D D' : List (Nat × AT)} (h : Same D D') : Same D' D := fun t => (h t).symm
theorem Same.trans {D D' D2 : List (Nat × AT)} (h : Same D D') (k : Same D' D2) : Same D D2 := fun t => (h t).trans (k t)
theorem Same.enc {D D' : List (Nat × AT)} (h : Same D' D) (k : EncL ρ H D L) : EncL ρ H D' L := fun t v hv => k t v (by rw [← h t]; exact hv)
theorem same_cons {d : Nat} {v : AT} {D : List (Nat × AT)} (h : D.lookup d = some v) : Same ((d, v) :: D) D := fun t => by
  rw [List.lookup_cons]
  split
  · rename_i e; have := eq_of_beq e; subst this; exact h.symm
  · rfl
theorem Same.bind {D D' : List (Nat × AT)} (h : Same D D') (dst : Option Nat) (v : AT) : Same (bindA dst v D) (bindA dst v D') := by
  cases dst with
  | none => exact h
  | some d => intro t; simp only [bindA, List.lookup_cons]; split <;> first | rfl | exact h t
theorem Same.sel {D D' : List (Nat × AT)} (h : Same D D') : ∀ ts, Draw.sel D ts = Draw.sel D' ts
  | [] => rfl
  | t :: ts => by simp only [Draw.sel]; rw [h t, Same.sel h ts]
theorem guardK_ok {nt : Nat} {l : List Oper} {o : Oper} {D1 D : List (Nat × AT)} (hsub : Draw.Sub D1 D) {run skip : List (Nat × AT) → Option R} {r : R} (hc : guardK nt l o D1 D run skip = some r) : ∃ D', Same D' D ∧ ((Gd l.toArray nt o D1 true ∧ run D' = some r) ∨ (Gd l.toArray nt o D1 false ∧ skip D' = some r)) := by
  unfold guardK at hc
  split at hc
  · rename_i hg; exact ⟨D, .refl D, .inl ⟨.run hg, hc⟩⟩
  · rename_i j want hg
    split at hc
    · rename_i d d' hj hdst
      rw [gsl_slot] at hj
      split at hc
      · rename_i hlt
        have hn : d' < nt := by simpa [Nat.blt_eq] using hlt
        split at hc
        · rename_i p hd
          cases want <;> cases p
          · exact ⟨_, same_cons (hsub _ _ hd), .inl ⟨.runG hg hj hd, hc⟩⟩
          · exact ⟨_, same_cons (hsub _ _ hd), .inr ⟨.skip hg hj hd rfl hdst hn, hc⟩⟩
          · exact ⟨_, same_cons (hsub _ _ hd), .inr ⟨.skip hg hj hd rfl hdst hn, hc⟩⟩
          · exact ⟨_, same_cons (hsub _ _ hd), .inl ⟨.runG hg hj hd, hc⟩⟩
        · rename_i hd; exact ⟨D, .refl D, .inr ⟨.skipU hg hj hd hdst hn, hc⟩⟩
        · cases hc
      · cases hc
    · cases hc

theorem opsD_ok (htb : TBOK P tb) (hO : OrcOK P O) {nt : Nat} (hE : E.n = nt) {ops : List Oper} {K : St → Option R} {r : R} : ∀ {rest : List Oper} {st : St} {ρ : Rho} {L : Env} {h : Heap}, opsD tb O nt ops rest st K = some r → SR F ρ st L h → ao P ops.toArray rest E (fun L2 h2 => ∃ ρ' st', K st' = some r ∧ SR F ρ' st' L2 h2) L h
  | [], st, ρ, L, h, hc, hs => Abs.ao_nil ⟨ρ, st, hc, hs⟩
  | o :: rest, st, ρ, L, h, hc, hs => by
    unfold opsD at hc
    obtain ⟨L2, h2, sh, hs2⟩ := fzIds_ok (ids := prepIds O o st.L) hs
    refine Abs.ao_shift sh ?_
    clear hs sh L h
    obtain ⟨st1, e1⟩ : ∃ st1, st1 = fzIds (prepIds O o st.L) st := ⟨_, rfl⟩
    rw [← e1] at hs2
    simp only [prep, ← e1] at hc
    obtain ⟨D', hsame, hcase⟩ := guardK_ok (fun _ _ h => h) hc
    have hse := hsame.enc hs2.slots
    rcases hcase with ⟨g, k⟩ | ⟨g, k⟩
    · have run : ar P o E (ao P ops.toArray rest E (fun L2 h2 => ∃ ρ' st', K st' = some r ∧ SR F ρ' st' L2 h2)) L2 h2 := by
        obtain ⟨v, H', k1, k2, _⟩ := one_ok (F := F) htb hO hE k
        refine ar_mono (k2 ρ L2 h2 hse hs2.heap hs2.fr) ?_
        rintro L3 h3 ⟨ρ', av, rfl, m1, m2, m3, m4⟩
        exact opsD_ok htb hO hE k1 ⟨bindA_enc (hse.mono m3) m1, m2, m4⟩
      cases g with
      | run hg => exact Abs.ao_step hg run
      | runG hg hj hd => exact Abs.ao_run hg hj (enc_b hs2.slots hd) rfl run
    · have skip : ∀ {d'}, o.dst = some d' → ao P ops.toArray rest E (fun L2 h2 => ∃ ρ' st', K st' = some r ∧ SR F ρ' st' L2 h2) ((d', .tup []) :: L2) h2 := fun {d'} hdst => by
        have := bindA_enc (dst := o.dst) hse (unit_ok (ρ := ρ) (H := st1.H))
        rw [hdst] at this k
        exact opsD_ok htb hO hE k ⟨this, hs2.heap, hs2.fr⟩
      cases g with
      | skip hg hj hd hp hdst hn => exact Abs.ao_skip hg hj (enc_b hs2.slots hd) hp hdst (by rw [hE]; exact hn) (skip hdst)
      | skipU hg hj hd hdst hn => exact Abs.ao_skipU hg hj (enc_u hs2.slots hd) hdst (by rw [hE]; exact hn) (skip hdst)
end
end Go.Proofs.Ytjafncnjefnloaa.Den

/-
  den is right: regions that draw their order, loops, and all code.
-/
namespace Go.Proofs.Ytjafncnjefnloaa.Den
open Go.RowKit
open Abs (V AV Env Heap ar aw ao)

section
variable {P : Program} {E : Abs.Cx} {F : In} {ρ ρ' : Rho} {H : List Ob} {D : List (Nat × AT)} {L : Env} {h h' : Heap} {R : Type} {tb : Nat → Option TI} {O : Orc}

theorem bindA_eq (dst : Option Nat) (v : AT) (L : List (Nat × AT)) : bindA dst v L = Draw.bindD dst v L := by cases dst <;> rfl

theorem EncL.sub {D' : List (Nat × AT)} (h : EncL ρ H D L) (hs : Draw.Sub D' D) : EncL ρ H D' L := fun t v hv => h t v (hs t v hv)

def sys (P : Program) (E : Abs.Cx) (F : In) (ops : Array Oper) (Hm : List Ob) : Draw.Sys P ops AT (List Ob) where
  Rel := fun D H a w => Le Hm H ∧ ∃ ρ L h ι I, SR F ρ ⟨D, H⟩ L h ∧ Abs.Rel E L h ι I a w
  OT := fun o D v H H' => Le Hm H → Le Hm H' ∧ ((Gd ops E.n o D true ∧ OpOK P o E F D H v H') ∨ (Gd ops E.n o D false ∧ v = .tup [] ∧ H' = H))
  weaken := fun ⟨hle, ρ, L, h, ι, I, hs, r⟩ k => ⟨hle, ρ, L, h, ι, I, ⟨hs.slots.sub k, hs.heap, hs.fr⟩, r⟩
  same := fun ⟨hle, ρ, L, h, ι, I, hs, r⟩ e1 e2 e3 e4 => ⟨hle, ρ, L, h, ι, I, hs, r.same e1 e2 e3 e4⟩
  sound := fun {o D Dg v H H' i a w Q K} ht hsub ho ⟨hle, ρ, L, h, ι, I, hs, r⟩ hk => by
    unfold wpOp
    rw [ho]
    simp only []
    obtain ⟨hle', ht⟩ := ht hle
    rcases ht with ⟨g, hop⟩ | ⟨g, rfl, rfl⟩
    · have hw : Region.wanted o (yielded ops a.tmps) = true := by
        cases g with
        | run hg => simp [Region.wanted, hg]
        | runG hg hj hd =>
          have hy := r.yields (ops := ops) hj (enc_b hs.slots (hsub _ _ hd))
          simp [Region.wanted, hg, hy]
      rw [if_pos hw]
      refine .inl (Abs.wp_mono2 ?_ (fun _ _ _ f => f.elim) ((hop ρ L h (hs.slots.sub hsub) hs.heap hs.fr).get [] ι I a w (by rw [List.append_nil]; exact r)))
      rintro a' w' ⟨L', h2, ι', I', ⟨ρ', av, rfl, m1, m2, m3, m4⟩, r'⟩
      refine hk a' w' ⟨hle', ρ', _, h2, ι', I', ⟨?_, m2, m4⟩, r'.low⟩
      show EncL ρ' _ (Draw.bindD o.dst v Dg) _
      rw [← bindA_eq]
      exact bindA_enc (hs.slots.mono m3) m1
    · have fin : ∀ {d'}, o.dst = some d' → d' < E.n → K (a.put (some d') undef) w := fun {d'} hdst hn => by
        refine hk _ _ ⟨hle, ρ, _, h, ι, I, ⟨?_, hs.heap, hs.fr⟩, r.put hn Abs.AR.none_⟩
        show EncL ρ _ (Draw.bindD o.dst _ Dg) _
        rw [← bindA_eq, hdst]
        exact bindA_enc (dst := some d') hs.slots unit_ok
      cases g with
      | skip hg hj hd hp hdst hn =>
        have hy := r.yields (ops := ops) hj (enc_b hs.slots (hsub _ _ hd))
        rw [if_neg (by simp [Region.wanted, hg, hy, hp]), hdst]
        exact fin hdst hn
      | skipU hg hj hd hdst hn =>
        have hy := r.yieldsU (ops := ops) hj (enc_u hs.slots (hsub _ _ hd))
        rw [if_neg (by simp [Region.wanted, hg, hy]), hdst]
        exact fin hdst hn

theorem range'_cons (i n : Nat) : List.range' i (n + 1) = i :: List.range' (i + 1) n := by rw [List.range'_succ]

theorem dr_same {ops : Array Oper} {S : Draw.Sys P ops AT (List Ob)} {ch rd π σ : List Nat} {D Df : List (Nat × AT)} {hs hf : List (List Ob)} (d : Draw.DR S ch rd π σ D hs Df hf) : ∀ {D' : List (Nat × AT)}, Same D D' → ∃ Df', Draw.DR S ch rd π σ D' hs Df' hf ∧ Same Df Df' := by
  induction d with
  | nil L hs => exact fun h => ⟨_, .nil _ _, h⟩
  | pure ho hc ht _ ih =>
    intro D' h
    have hb := h.bind
    simp only [bindA_eq] at hb
    obtain ⟨Df', k1, k2⟩ := ih (hb _ _)
    exact ⟨Df', .pure ho hc (by rw [← h.sel]; exact ht) k1, k2⟩
  | read ho hc hr ht _ ih =>
    intro D' h
    have hb := h.bind
    simp only [bindA_eq] at hb
    obtain ⟨Df', k1, k2⟩ := ih (hb _ _)
    exact ⟨Df', .read ho hc hr (by rw [← h.sel]; exact ht) k1, k2⟩
  | chain ho hc ht _ ih =>
    intro D' h
    have hb := h.bind
    simp only [bindA_eq] at hb
    obtain ⟨Df', k1, k2⟩ := ih (hb _ _)
    exact ⟨Df', .chain ho hc (by rw [← h.sel]; exact ht) k1, k2⟩

theorem drawD_ok (htb : TBOK P tb) (hO : OrcOK P O) {nt : Nat} (hE : E.n = nt) {ops : Array Oper} {Hm : List Ob} {π ch rd : List Nat} {K : List (Nat × AT) → List Ob → Option R} {r : R} : ∀ {rest done : List Nat} {D : List (Nat × AT)} {Hd H : List Ob} {hs : List (List Ob)}, drawD tb O nt ops Hm π ch rd done rest D Hd H K = some r → hs.length = Abs.cnt ch done → (∀ h ∈ H :: hs, Le Hd h) →
    ∃ Df Hl hl Df', Draw.DR (sys P E F ops Hm) ch rd π rest D (H :: hs) Df' (Hl :: hl) ∧ Same Df Df' ∧ K Df Hl = some r
  | [], done, D, Hd, H, hs, hc, _, _ => ⟨D, H, hs, D, .nil _ _, .refl _, hc⟩
  | i :: rest, done, D, Hd, H, hs, hc, hl, hle => by
    unfold drawD at hc
    split at hc
    · cases hc
    rename_i o ho
    have hcnt : Abs.cnt ch (i :: done) = Abs.cnt ch done + (if ch.contains i then 1 else 0) := by
      unfold Abs.cnt
      rw [List.countP_cons]
    have hsub : Draw.Sub (Draw.sel D (o.looksAt ops)) D := Draw.sel_sub fun _ _ => rfl
    simp only at hc
    split at hc
    · rename_i hch
      have hcnt' : (H :: hs).length = Abs.cnt ch (i :: done) := by rw [hcnt, if_pos hch, List.length_cons, hl]
      have go : ∀ {v : AT} {Hd' H' : List Ob} {D' : List (Nat × AT)}, Same D' D → (sys P E F ops Hm).OT o (Draw.sel D (o.looksAt ops)) v H H' → Le Hd' Hd → Le Hd' H' → drawD tb O nt ops Hm π ch rd (i :: done) rest (bindA o.dst v D') Hd' H' K = some r →
          ∃ Df Hl hl Df', Draw.DR (sys P E F ops Hm) ch rd π (i :: rest) D (H :: hs) Df' (Hl :: hl) ∧ Same Df Df' ∧ K Df Hl = some r := fun {v Hd' H' D'} hsm ht hd1 hd2 hc => by
        obtain ⟨Df, Hl, hl', Df', k1, k3, k2⟩ := drawD_ok htb hO hE (hs := H :: hs) hc hcnt' (fun h hm => by
          rcases List.mem_cons.1 hm with rfl | hm
          · exact hd2
          · exact hd1.trans (hle h hm))
        obtain ⟨Df2, m1, m2⟩ := dr_same k1 (hsm.bind o.dst v)
        rw [bindA_eq] at m1
        exact ⟨Df, Hl, hl', Df2, .chain ho hch ht m1, k3.trans m2, k2⟩
      obtain ⟨D', hsm, ⟨g, k⟩ | ⟨g, k⟩⟩ := guardK_ok hsub hc
      · split at k
        · rename_i htc
          obtain ⟨v, H', k1, k2, k4⟩ := one_ok (F := F) (E := E) htb hO hE k
          exact go hsm (fun hle => ⟨hle.unt k4 htc, .inl ⟨by rw [hE]; simpa using g, k2⟩⟩) (hideH_le _ _) ((hle H (by simp)).hide k4) k1
        · cases k
      · exact go hsm (fun hle => ⟨hle, .inr ⟨by rw [hE]; simpa using g, rfl, rfl⟩⟩) (.refl _) (hle H (by simp)) k
    · rename_i hch
      have hch' : ch.contains i = false := by simpa using hch
      have hcnt' : hs.length = Abs.cnt ch (i :: done) := by rw [hcnt, if_neg hch]; exact hl
      split at hc
      · rename_i hrd
        have go : ∀ {v : AT} {D' : List (Nat × AT)}, Same D' D → (∀ H2 ∈ (H :: hs).take ((H :: hs).length - Abs.cnt ch (π.filter fun j => Abs.isBef ops j i)), (sys P E F ops Hm).OT o (Draw.sel D (o.looksAt ops)) v H2 H2) → drawD tb O nt ops Hm π ch rd (i :: done) rest (bindA o.dst v D') Hd H K = some r →
            ∃ Df Hl hl Df', Draw.DR (sys P E F ops Hm) ch rd π (i :: rest) D (H :: hs) Df' (Hl :: hl) ∧ Same Df Df' ∧ K Df Hl = some r := fun {v D'} hsm ht hc => by
          obtain ⟨Df, Hl, hl', Df', k1, k3, k2⟩ := drawD_ok htb hO hE (hs := hs) hc hcnt' hle
          obtain ⟨Df2, m1, m2⟩ := dr_same k1 (hsm.bind o.dst v)
          rw [bindA_eq] at m1
          exact ⟨Df, Hl, hl', Df2, .read ho hch' hrd ht m1, k3.trans m2, k2⟩
        obtain ⟨D', hsm, ⟨g, k⟩ | ⟨g, k⟩⟩ := guardK_ok hsub hc
        · split at k
          · obtain ⟨v, k1, k2⟩ := oneI_ok (F := F) (E := E) htb hE k
            exact go hsm (fun H2 _ hle => ⟨hle, .inl ⟨by rw [hE]; simpa using g, k2 H2⟩⟩) k1
          · split at k
            · rename_i hkp
              obtain ⟨v, k1, k2⟩ := oneK_ok (F := F) (E := E) htb hO hE hkp k
              refine go hsm (fun H2 hm hle2 => ⟨hle2, .inl ⟨by rw [hE]; simpa using g, k2 H2 ?_⟩⟩) k1
              split
              · rename_i hb
                have hb := Nat.le_of_ble_eq_true hb
                have hk : (H :: hs).length - Abs.cnt ch (π.filter fun j => Abs.isBef ops j i) ≤ 1 := by rw [List.length_cons]; omega
                have : H2 = H := by
                  have h2 : H2 ∈ (H :: hs).take 1 := by
                    have e : (H :: hs).take ((H :: hs).length - Abs.cnt ch (π.filter fun j => Abs.isBef ops j i)) = ((H :: hs).take 1).take ((H :: hs).length - Abs.cnt ch (π.filter fun j => Abs.isBef ops j i)) := by rw [List.take_take, Nat.min_eq_left hk]
                    rw [e] at hm
                    exact List.mem_of_mem_take hm
                  simpa using h2
                rw [this]
                exact .refl H
              · exact hle H2 (List.mem_of_mem_take hm)
            · cases k
        · exact go hsm (fun H2 _ hle => ⟨hle, .inr ⟨by rw [hE]; simpa using g, rfl, rfl⟩⟩) k
      · have go : ∀ {v : AT} {D' : List (Nat × AT)}, Same D' D → (∀ H, (sys P E F ops Hm).OT o (Draw.sel D (o.looksAt ops)) v H H) → drawD tb O nt ops Hm π ch rd (i :: done) rest (bindA o.dst v D') Hd H K = some r →
            ∃ Df Hl hl Df', Draw.DR (sys P E F ops Hm) ch rd π (i :: rest) D (H :: hs) Df' (Hl :: hl) ∧ Same Df Df' ∧ K Df Hl = some r := fun {v D'} hsm ht hc => by
          obtain ⟨Df, Hl, hl', Df', k1, k3, k2⟩ := drawD_ok htb hO hE (hs := hs) hc hcnt' hle
          obtain ⟨Df2, m1, m2⟩ := dr_same k1 (hsm.bind o.dst v)
          rw [bindA_eq] at m1
          exact ⟨Df, Hl, hl', Df2, .pure ho hch' ht m1, k3.trans m2, k2⟩
        obtain ⟨D', hsm, ⟨g, k⟩ | ⟨g, k⟩⟩ := guardK_ok hsub hc
        · split at k
          · obtain ⟨v, k1, k2⟩ := oneI_ok (F := F) (E := E) htb hE k
            exact go hsm (fun H hle => ⟨hle, .inl ⟨by rw [hE]; simpa using g, k2 H⟩⟩) k1
          · split at k
            · rename_i hkp
              obtain ⟨v, k1, k2⟩ := oneK_ok (F := F) (E := E) (H := Hm) htb hO hE hkp k
              exact go hsm (fun H hle => ⟨hle, .inl ⟨by rw [hE]; simpa using g, k2 H hle⟩⟩) k1
            · cases k
        · exact go hsm (fun H hle => ⟨hle, .inr ⟨by rw [hE]; simpa using g, rfl, rfl⟩⟩) k

/-- What den asks of the code behind it. -/
def Goes (F : In) (K : Kt R) (r : R) : Exit → Env → Heap → Prop := fun e L h => ∃ ρ' st', K e st' = some r ∧ SR F ρ' st' L h

/-- A piece of code whose meaning is given. -/
def PieceOK (P : Program) (an : Ann) (c : Code) (f : (R : Type) → St → Kt R → Option R) : Prop := ∀ (R : Type) (E : Abs.Cx) (F : In), E.n = an.nt → F.ok an.refs → ∀ (st : St) (K : Kt R) (r : R) (ρ : Rho) (L : Env) (h : Heap), f R st K = some r → SR F ρ st L h → aw P c E (Goes F K r) L h
def AllP (P : Program) (an : Ann) (pc : Pcs) : List (Nat × Nat × Code) → Prop
  | [] => True
  | p :: l => PieceOK P an p.2.2 (fun R => pc.at_ p.1 R p.2.1) ∧ AllP P an pc l
theorem AllP.app {an : Ann} {pc : Pcs} : ∀ {a b : List (Nat × Nat × Code)}, AllP P an pc (a ++ b) → AllP P an pc a ∧ AllP P an pc b
  | [], _, h => ⟨trivial, h⟩
  | _ :: _, _, h => let ⟨h1, h2⟩ := AllP.app h.2; ⟨⟨h.1, h1⟩, h2⟩

theorem known_ok {c : Operand} {b : Bool} {st : St} (hs : SR F ρ st L h) (hx : ev st.L c = some (.one (.b b))) : SR F ρ (known c b st) L h := by
  cases c with
  | tmp t => exact ⟨Same.enc (same_cons hx) hs.slots, hs.heap, hs.fr⟩
  | _ => exact hs
theorem den_ok (hm : P.follows .mixedOrders = true) (htb : TBOK P tb) (hO : OrcOK P O) {an : Ann} {pc : Pcs} (hE : E.n = an.nt) (hF : F.ok an.refs) : ∀ {c : Code} {st : St} {K : Kt R} {r : R} {ρ : Rho} {L : Env} {h : Heap}, AllP P an pc (pieces an c) → den tb O pc an c st K = some r → SR F ρ st L h → aw P c E (Goes F K r) L h
  | .skip, st, K, r, ρ, L, h, _, hc, hs => Abs.aw_skip ⟨ρ, st, hc, hs⟩
  | .ret, st, K, r, ρ, L, h, _, hc, hs => Abs.aw_ret ⟨ρ, st, hc, hs⟩
  | .exit id, st, K, r, ρ, L, h, _, hc, hs => Abs.aw_exit ⟨ρ, st, hc, hs⟩
  | .seq a b, st, K, r, ρ, L, h, hP, hc, hs => by
    unfold pieces at hP
    obtain ⟨hP1, hP2⟩ := hP.app
    refine Abs.aw_seq (Abs.aw_mono ?_ (den_ok hm htb hO hE hF (c := a) hP1 hc hs))
    rintro e L h ⟨ρ', st', k1, k2⟩
    cases e with
    | normal =>
      simp only [thenK] at k1
      simp only [Abs.thenQ]
      split at hP2
      · rename_i lv hl
        rw [hl] at k1
        obtain ⟨ρ2, st2, m1, m2⟩ := restrict_ok hF k2 k1
        exact hP2.1 R E F hE hF _ _ _ _ _ _ m1 m2
      · rename_i hl
        rw [hl] at k1
        exact den_ok hm htb hO hE hF (c := b) hP2 k1 k2
    | _ => exact ⟨ρ', st', k1, k2⟩
  | .block id a, st, K, r, ρ, L, h, hP, hc, hs => by
    refine Abs.aw_block (Abs.aw_mono ?_ (den_ok hm htb hO hE hF (c := a) hP hc hs))
    rintro e L h ⟨ρ', st', k1, k2⟩
    cases e with
    | exit id' =>
      simp only [blockK] at k1
      simp only [Abs.blockQ]
      by_cases hid : id' = id
      · subst hid
        rw [if_pos (Nat.beq_refl id')] at k1
        rw [if_pos rfl]
        exact ⟨ρ', st', k1, k2⟩
      · rw [if_neg (fun hb => hid (Nat.eq_of_beq_eq_true hb))] at k1
        rw [if_neg hid]
        exact ⟨ρ', st', k1, k2⟩
    | _ => exact ⟨ρ', st', k1, k2⟩
  | .cond x a b, st, K, r, ρ, L, h, hP, hc, hs => by
    unfold pieces at hP
    obtain ⟨hP1, hP2⟩ := hP.app
    unfold den at hc
    split at hc
    · rename_i p hx
      obtain ⟨av, h1, h2⟩ := ev_ok hs.slots hx
      obtain ⟨u, rfl, h3⟩ := h2.one'
      rw [h3.bool] at h1
      refine Abs.aw_cond h1 (fun e => ?_) (fun e => ?_)
      · subst e
        have hs := known_ok hs hx
        simp only [cond_true] at hc
        split at hP1
        · rename_i lv hl
          rw [hl] at hc
          obtain ⟨ρ2, st2, m1, m2⟩ := restrict_ok hF hs hc
          exact hP1.1 R E F hE hF _ _ _ _ _ _ m1 m2
        · rename_i hl
          rw [hl] at hc
          exact den_ok hm htb hO hE hF (c := a) hP1 hc hs
      · subst e
        have hs := known_ok hs hx
        simp only [cond_false] at hc
        split at hP2
        · rename_i lv hl
          rw [hl] at hc
          obtain ⟨ρ2, st2, m1, m2⟩ := restrict_ok hF hs hc
          exact hP2.1 R E F hE hF _ _ _ _ _ _ m1 m2
        · rename_i hl
          rw [hl] at hc
          exact den_ok hm htb hO hE hF (c := b) hP2 hc hs
    · cases hc
  | .loop a, st, K, r, ρ, L, h, hP, hc, hs => by
    unfold den at hc
    split at hc
    · obtain ⟨ρ1, st1, k1, k2⟩ := restrict_ok hF hs hc
      exact hP.1 R E F hE hF _ _ _ _ _ _ k1 k2
    · cases hc
  | .region id ⟨ops⟩ false, st, K, r, ρ, L, h, _, hc, hs => Abs.aw_region (opsD_ok htb hO hE hc hs)
  | .region id ops true, st, K, r, ρ, L, h, hP, hc, hs => by
    unfold pieces at hP
    unfold den at hc
    split at hc
    · rename_i d hpl
      rw [hpl] at hP
      simp only at hP
      split at hc
      · cases hc
      · rename_i π ch rd ho
        split at hc
        · rename_i hp
          obtain ⟨L2, h2, sh, hs2⟩ := fzIds_ok (ids := slotRows st.L st.H d.fz) hs
          simp only at hc
          refine Abs.aw_shift sh ?_
          obtain ⟨Df, Hl, hl, Df', k1, k3, k2⟩ := drawD_ok (F := F) (E := E) htb hO hE (hs := []) hc rfl (fun h hm => by simp at hm; subst hm; exact .refl _)
          refine ⟨fun ι I a w rel => ?_⟩
          refine Draw.draw (S := sys P E F ops (maskH d.vis (fzIds (slotRows st.L st.H d.fz) st).H)) hm π ch rd hp k1 (fun a w ⟨_, ρ', L', h', ι', I', q1, q2⟩ => ⟨L', h', ι', I', ⟨ρ', ⟨Df, Hl⟩, k2, ⟨k3.enc q1.slots, q1.heap, q1.fr⟩⟩, q2⟩) ⟨maskH_le _ _, ρ, L2, h2, ι, I, hs2, rel⟩
        · cases hc
      · rename_i x y l ho
        rw [ho] at hP
        obtain ⟨ρ1, st1, k1, k2⟩ := restrict_ok hF hs hc
        exact hP.1 R E F hE hF _ _ _ _ _ _ k1 k2
    · cases hc

/-- A region with several orders: in each it does the same. -/
theorem draw_piece (hm : P.follows .mixedOrders = true) (htb : TBOK P tb) (hO : OrcOK P O) {an : Ann} {ops : Array Oper} {id : Nat} {o : Outs} {d : Dw} (hp : Abs.plansOK ops d.cs d.orders = true) {f : (R : Type) → St → Kt R → Option R}
    (hf : ∀ p ∈ d.orders, ∀ (R : Type) (st : St) (K : Kt R) (r : R), f R st K = some r → (fun st1 : St => drawD tb O an.nt ops (maskH d.vis st1.H) p.1 p.2.1 p.2.2 [] p.1 st1.L st1.H st1.H fun L H => outK an.refs o K .normal ⟨L, H⟩) (fzIds (slotRows st.L st.H d.fz) st) = some r) : PieceOK P an (.region id ops true) f :=
  fun R E F hE hF st K r ρ L h hk hs => by
    obtain ⟨L2, h2, sh, hs2⟩ := fzIds_ok (ids := slotRows st.L st.H d.fz) hs
    refine Abs.aw_shift sh ⟨fun ι I a w rel => ?_⟩
    refine Draw.drawL (S := sys P E F ops (maskH d.vis (fzIds (slotRows st.L st.H d.fz) st).H)) (L := (fzIds (slotRows st.L st.H d.fz) st).L) (h := (fzIds (slotRows st.L st.H d.fz) st).H) hm d.cs d.orders hp (fun p hpm => ?_) ⟨maskH_le _ _, ρ, L2, h2, ι, I, hs2, rel⟩
    obtain ⟨Df, Hl, hl, Df', k1, k3, k2⟩ := drawD_ok (F := F) (E := E) htb hO hE (hs := []) (hf p hpm R st K r hk) rfl (fun h hm => by simp at hm; subst hm; exact .refl _)
    refine ⟨Df', Hl, hl, k1, fun a w ⟨_, ρ', L', h', ι', I', q1, q2⟩ => ?_⟩
    have q3 : SR F ρ' ⟨Df, Hl⟩ L' h' := ⟨k3.enc q1.slots, q1.heap, q1.fr⟩
    obtain ⟨ρ3, st3, m1, m2⟩ := restrict_ok hF q3 k2
    exact ⟨L', h', ι', I', ⟨ρ3, st3, m1, m2⟩, q2⟩
theorem cut_piece (hm : P.follows .mixedOrders = true) (htb : TBOK P tb) (hO : OrcOK P O) {an : Ann} {pc : Pcs} {c : Code} {o : Outs} (hP : AllP P an pc (pieces an c)) {f : (R : Type) → St → Kt R → Option R} (hf : ∀ (R : Type) (st : St) (K : Kt R) (r : R), f R st K = some r → den tb O pc an c st (outK an.refs o K) = some r) : PieceOK P an c f :=
  fun R _ _ hE hF st K r _ _ _ hk hs => Abs.aw_mono (fun _ _ _ ⟨_, _, k1, k2⟩ => let ⟨ρ2, st2, m1, m2⟩ := restrict_ok hF k2 k1; ⟨ρ2, st2, m1, m2⟩) (den_ok hm htb hO hE hF hP (hf R st K r hk) hs)
theorem loop_piece (hm : P.follows .mixedOrders = true) (htb : TBOK P tb) (hO : OrcOK P O) {an : Ann} {pc : Pcs} {c : Code} {lv : List Nat} {o : Outs} (hP : AllP P an pc (pieces an c)) {f : Nat → (R : Type) → St → Kt R → Option R} (h0 : ∀ (R : Type) (st : St) (K : Kt R), f 0 R st K = none)
    (hf : ∀ (n : Nat) (R : Type) (st : St) (K : Kt R) (r : R), f (n + 1) R st K = some r → den tb O pc an c st (roundK an.refs lv o (fun st' => f n R st' K) K) = some r) (n : Nat) : PieceOK P an (.loop c) (f n) :=
  fun R E F hE hF st K r ρ L h hk hs => by
    refine Abs.aw_loop (fun m L h => ∃ ρ st, f m R st K = some r ∧ SR F ρ st L h) (Abs.sub_refl L) ⟨ρ, st, hk, hs⟩ ?_
    rintro m L h ⟨ρ, st, m1, m2⟩
    cases m with
    | zero => rw [h0] at m1; cases m1
    | succ m =>
      refine Abs.aw_mono ?_ (den_ok hm htb hO hE hF hP (hf m R st K r m1) m2)
      rintro e L h ⟨ρ', st', k1, k2⟩
      cases e with
      | normal =>
        simp only [roundK, thenK] at k1
        obtain ⟨ρ2, st2, q1, q2⟩ := restrict_ok hF k2 k1
        exact ⟨m, L, Nat.lt_succ_self m, Abs.sub_refl L, ρ2, st2, q1, q2⟩
      | _ =>
        simp only [roundK, thenK, outK] at k1
        obtain ⟨ρ2, st2, q1, q2⟩ := restrict_ok hF k2 k1
        exact ⟨ρ2, st2, q1, q2⟩
end
end Go.Proofs.Ytjafncnjefnloaa.Den

/-
  A function, by den: its contract.
-/
namespace Go.Proofs.Ytjafncnjefnloaa.Den
open Go.RowKit
open Abs (V AV Env Heap ar aw ao)

def argsD : Nat → List AT → List (Nat × AT)
  | _, [] => []
  | k, x :: xs => (k, x) :: argsD (k + 1) xs
def resD (tb : Nat → Option TI) (L : List (Nat × AT)) (H : List Ob) : ResultVar → Option AT
  | .tmp t => L.lookup t
  | .cell a t => match L.lookup a, tb t with
    | some (.one (.p id off)), some ti => match H[id]? with
      | some (.box cs) => ld ti.agg ti.size (cs.drop off)
      | _ => none
    | _, _ => none
def resDs (tb : Nat → Option TI) (L : List (Nat × AT)) (H : List Ob) : List ResultVar → Option (List AT)
  | [] => some []
  | r :: rs => match resD tb L H r, resDs tb L H rs with
    | some v, some vs => some (v :: vs)
    | _, _ => none
def packR : List AT → AT
  | [x] => x
  | xs => .tup xs
def packA : List AV → AV
  | [x] => x
  | xs => .tup xs
def rowsR : List AT → List Nat
  | [] => []
  | x :: xs => (match cells x with
    | some cs => cs.flatMap C.rows
    | none => []) ++ rowsR xs
def idsR (tb : Nat → Option TI) (rs : List ResultVar) (st : St) : List Nat := match resDs tb st.L st.H rs with
  | some vs => rowsR vs
  | none => []
/-- A function's end: its results are flat. -/
def finF (tb : Nat → Option TI) (an : Ann) (rs : List ResultVar) (st : St) : Option (AT × List Ob) :=
  let st1 := fzIds (idsR tb rs st) st
  match resDs tb st1.L st1.H rs with
  | some vs => match peekAs [] vs with
    | some us => restrict an.refs [] st1 fun st2 => some (packR us, st2.H)
    | none => none
  | none => none
def looksD (L : List (Nat × AT)) : Nat → Nat → Option (List AT)
  | _, 0 => some []
  | k, m + 1 => match L.lookup k, looksD L (k + 1) m with
    | some v, some vs => some (v :: vs)
    | _, _ => none
/-- A function's end: its results are own objects. -/
def finR (tb : Nat → Option TI) (an : Ann) (rs : List ResultVar) (st : St) : Option (AT × List Ob) :=
  match resDs tb st.L st.H rs with
  | some vs => restrict an.refs (List.range vs.length) ⟨argsD 0 vs, st.H⟩ fun st2 => match looksD st2.L 0 vs.length with
    | some us => some (packR us, st2.H)
    | none => none
  | none => none
def atEnd {R : Type} (fin : St → Option R) : Kt R
  | .normal, st => fin st
  | .ret, st => fin st
  | _, _ => none

section
variable {P : Program} {E : Abs.Cx} {F : In} {ρ ρ' : Rho} {H : List Ob} {D : List (Nat × AT)} {L : Env} {h h' : Heap} {R : Type} {tb : Nat → Option TI} {O : Orc}

theorem argsD_enc : ∀ {k : Nat} {xs : List AT} {avs : List AV}, ATRs ρ H xs avs → EncL ρ H (argsD k xs) (Abs.argEnv k avs)
  | k, [], avs, _ => fun t v hv => by simp [argsD] at hv
  | k, x :: xs, avs, hr => by
    obtain ⟨av, avs, rfl, r1, r2⟩ := hr.head
    intro t v hv
    simp only [argsD, List.lookup_cons] at hv
    simp only [Abs.argEnv, List.lookup_cons]
    split at hv
    · cases hv; exact ⟨av, rfl, r1⟩
    · exact argsD_enc r2 t v hv
theorem resD_ok (htb : TBOK P tb) {st : St} (hs : SR F ρ st L h) {rv : ResultVar} {v : AT} (hv : resD tb st.L st.H rv = some v) : ∃ av, ATR ρ st.H v av ∧ Abs.Res1 P L h rv av := by
  cases rv with
  | tmp t =>
    obtain ⟨av, h1, h2⟩ := hs.slots t v hv
    exact ⟨av, h2, Abs.res1_tmp h1⟩
  | cell a t =>
    unfold resD at hv
    simp only at hv
    split at hv
    · rename_i id off ti h1 h2
      split at hv
      · rename_i cs h3
        obtain ⟨i, G⟩ := htb.get h2
        obtain ⟨av, k1, k2⟩ := hs.slots a _ h1
        obtain ⟨u, rfl, k3⟩ := k2.one'
        obtain ⟨b, rfl, k4⟩ := k3.ptr
        obtain ⟨b', vs, k5, k6, k7⟩ := hs.heap.box id cs h3
        rw [k4] at k5
        cases k5
        obtain ⟨av, k8, k9⟩ := ld_ok hv (k7.drop off)
        exact ⟨av, k9, Abs.res1_cell G.tb k1 G.look k6 rfl (by rw [G.size, G.agg]; exact k8)⟩
      · cases hv
    · cases hv
theorem resDs_ok (htb : TBOK P tb) {st : St} (hs : SR F ρ st L h) : ∀ {rs : List ResultVar} {vs : List AT}, resDs tb st.L st.H rs = some vs → ∃ avs, ATRs ρ st.H vs avs ∧ Abs.ResL P L h rs avs
  | [], vs, hv => by cases hv; exact ⟨[], .nil_, .nil⟩
  | r :: rs, vs, hv => by
    simp only [resDs] at hv
    split at hv
    · rename_i x xs h1 h2
      cases hv
      obtain ⟨av, k1, k2⟩ := resD_ok htb hs h1
      obtain ⟨avs, k3, k4⟩ := resDs_ok htb hs h2
      exact ⟨av :: avs, .cons k1 k3, .cons k2 k4⟩
    · cases hv
theorem Weak.refl (a : List AV) : Weak a a := ⟨rfl, fun _ _ _ _ _ _ _ h => h⟩
theorem res_pack {fn : Func} {rs : List ResultVar} {avs bvs : List AV} (hr : fn.results = rs.toArray) (k : Abs.ResL P L h rs avs) (hw : Weak avs bvs) : Abs.Res P fn L h (packA bvs) :=
  ⟨fun E ι I a w r => by
    obtain ⟨cs, e1, e2, e3⟩ := k.run r
    have e0 : results fn a.tmps = (do let vs ← rs.toArray.mapM (Abs.rvRun a.tmps); pure (if h : vs.size = 1 then vs[0] else .tuple vs)) := by
      unfold results
      rw [hr]
      congr 2
    have e4 : ∀ j (hj : j < bvs.length), ∃ c, cs[j]? = some c ∧ Abs.AR ι I w bvs[j] c := fun j hj => by
      obtain ⟨c, g1, g2⟩ := e3 j (by rw [hw.1]; exact hj)
      exact ⟨c, g1, hw.2 j _ hj _ _ _ _ g2⟩
    have e2 : cs.length = bvs.length := e2.trans hw.1
    rw [e0]
    simp only [List.mapM_toArray]
    by_cases h1 : cs.length = 1
    · obtain ⟨c, rfl⟩ := List.length_eq_one_iff.1 h1
      obtain ⟨b, rfl⟩ := List.length_eq_one_iff.1 (e2.symm.trans h1)
      obtain ⟨c', g1, g2⟩ := e4 0 (by simp)
      simp at g1
      subst g1
      exact ⟨c, by simp [e1], g2⟩
    · refine ⟨.tuple cs.toArray, by simp [e1, h1], ?_⟩
      have hp : packA bvs = .tup bvs := by
        match bvs, e2 with
        | [], _ => rfl
        | [b], e => exact absurd e h1
        | b :: c :: l, _ => rfl
      rw [hp]
      refine .tup (f := fun j => (cs[j]?).getD undef) (by simpa using e2) (fun j hj => ?_) (fun j hj => ?_)
      · obtain ⟨c, g1, _⟩ := e4 j hj
        simp [g1]
      · obtain ⟨c, g1, g2⟩ := e4 j hj
        simpa [g1] using g2⟩
theorem packR_ok {xs : List AT} {avs : List AV} (h : ATRs ρ H xs avs) : ATR ρ H (packR xs) (packA avs) := by
  match xs, avs, h with
  | [], [], h => exact .tup rfl (fun j h => by simp at h)
  | [x], [a], h => exact h.2 0 (by simp) (by simp)
  | x :: y :: l, a :: b :: m, h => exact .tup h.1 h.2
  | [], a :: m, h => exact absurd h.1 (by simp)
  | x :: l, [], h => exact absurd h.1 (by simp)
  | [x], a :: b :: m, h => exact absurd h.1 (by simp)
  | x :: y :: l, [a], h => exact absurd h.1 (by simp)
theorem peekAs_up {H0 H1 : List Ob} {ρ0 : Rho} : ∀ {xs ys : List AT} {bvs : List AV}, peekAs H0 xs = some ys → ATRs ρ0 H1 ys bvs → ATRs ρ H ys bvs
  | [], ys, bvs, hp, h => by
    cases hp
    have := h.1
    cases bvs with
    | nil => exact .nil_
    | cons _ _ => simp at this
  | x :: xs, ys, bvs, hp, h => by
    simp only [peekAs] at hp
    split at hp
    · rename_i y ys' h1 h2
      cases hp
      obtain ⟨av, avs, rfl, r1, r2⟩ := h.head
      exact .cons (peekA_up h1 r1) (peekAs_up h2 r2)
    · cases hp
theorem Fr.refl (ρ : Rho) (H : List Ob) (h : Heap) : Fr ⟨h, ρ, H⟩ ρ H h := ⟨Nat.le_refl _, fun _ _ h _ => h, fun _ _ _ => rfl, fun _ _ h => h, fun _ x h => ⟨x, h, evo0.refl x⟩⟩

theorem looksD_ok0 {L2 : List (Nat × AT)} : ∀ {m k : Nat} {avs : List AV} {us : List AT} {E : Env}, EncL ρ H L2 E → (∀ j, j < m → ∃ av, avs[j]? = some av ∧ ∀ x, E.lookup (k + j) = some x → x = av) → avs.length = m → looksD L2 k m = some us → ATRs ρ H us avs
  | 0, k, avs, us, E, _, _, hl, h => by
    cases h
    rw [List.eq_nil_of_length_eq_zero hl]
    exact .nil_
  | m + 1, k, avs, us, E, he, hav, hl, h => by
    simp only [looksD] at h
    split at h
    · rename_i v vs h1 h2
      cases h
      cases avs with
      | nil => simp at hl
      | cons av avs =>
        obtain ⟨av', g1, g2⟩ := hav 0 (by omega)
        simp at g1
        subst g1
        obtain ⟨x, k1, k2⟩ := he k v h1
        have := g2 x (by simpa using k1)
        subst this
        refine .cons k2 (looksD_ok0 he (fun j hj => ?_) (by simpa using hl) h2)
        obtain ⟨y, m1, m2⟩ := hav (j + 1) (by omega)
        exact ⟨y, by simpa using m1, fun z hz => m2 z (by rw [← hz]; congr 1; omega)⟩
    · cases h
theorem looksD_ok {L2 : List (Nat × AT)} {n : Nat} {avs : List AV} {us : List AT} (he : EncL ρ H L2 (Abs.argEnv 0 avs)) (hl : n = avs.length) (h : looksD L2 0 n = some us) : ATRs ρ H us avs := by
  refine looksD_ok0 he (fun j hj => ?_) hl.symm h
  have hlt : j < avs.length := by omega
  refine ⟨avs[j], List.getElem?_eq_getElem hlt, fun x hx => ?_⟩
  have := (Abs.argEnv_lookup avs 0 (0 + j) x hx).2
  rw [Nat.zero_add, Nat.sub_zero, List.getElem?_eq_getElem hlt] at this
  cases this
  rfl
/-- A function's contract, by den. -/
theorem fn_of_den {f : FuncId} {fn : Func} {c : Code} {rs : List ResultVar} {an : Ann} {pc : Pcs} {xs : List AT} {v : AT} {H' : List Ob} {fin : St → Option (AT × List Ob)} (hm : P.follows .mixedOrders = true) (htb : TBOK P tb) (hO : OrcOK P O) (hf : P.funcs[f]? = some fn) (hb : fn.body = some c) (hname : (fn.name == "runtime.NumGoroutine") = false)
    (hnt : Nat.beq fn.ntmps an.nt = true) (hx : Nat.ble xs.length an.nt = true) (hr : Nat.beq an.refs H.length = true) (hrs : fn.results = rs.toArray) (hfin : fin = finF tb an rs ∨ fin = finR tb an rs)
    (hP : AllP P an pc (pieces an c)) (hd : den tb O pc an c ⟨argsD 0 xs, H⟩ (atEnd fin) = some (v, H')) : CFn P f xs H v H' := by
  have hnt := Nat.eq_of_beq_eq_true hnt
  have hx := Nat.le_of_ble_eq_true hx
  have hr := Nat.eq_of_beq_eq_true hr
  intro ρ h avs hp ha
  refine Abs.fn_of_aw hf hb hname (by rw [hnt, ← ha.1]; exact hx) fun E hE => ?_
  have hF : (In.mk h ρ H).ok an.refs := ⟨by rw [hr]; exact hp.len, hr.symm⟩
  refine Abs.aw_mono ?_ (den_ok (F := ⟨h, ρ, H⟩) hm htb hO (hE.trans hnt) hF hP hd ⟨argsD_enc ha, hp, Fr.refl _ _ _⟩)
  have key : ∀ {st : St} {ρ' : Rho} {L : Env} {h1 : Heap}, fin st = some (v, H') → SR ⟨h, ρ, H⟩ ρ' st L h1 →
      ∃ L2 h2 r, Abs.Shift L h1 L2 h2 ∧ Abs.Res P fn L2 h2 r ∧ Abs.Out h (fun r h' => ∃ ρ', ATR ρ' H' v r ∧ HpR ρ' H' h' ∧ Fr ⟨h, ρ, H⟩ ρ' H' h') r h2 := by
    intro st ρ' L h1 hk hs
    rcases hfin with rfl | rfl
    · unfold finF at hk
      obtain ⟨L2, h2, sh, hs2⟩ := fzIds_ok (ids := idsR tb rs st) hs
      simp only at hk
      split at hk
      · rename_i vs hvs
        split at hk
        · rename_i us hus
          obtain ⟨avs', a1, a2⟩ := resDs_ok htb hs2 hvs
          obtain ⟨bvs, b1, b2, b3⟩ := peekAs0_ok hus a1
          obtain ⟨ρ2, st2, c1, c2⟩ := restrict_ok hF hs2 hk
          cases c1
          exact ⟨L2, h2, packA bvs, sh, res_pack hrs a2 b3, .inl ⟨ρ2, packR_ok (peekAs_up hus b1), c2.heap, c2.fr⟩⟩
        · cases hk
      · cases hk
    · unfold finR at hk
      split at hk
      · rename_i vs hvs
        obtain ⟨avs', a1, a2⟩ := resDs_ok htb hs hvs
        have hs' : SR ⟨h, ρ, H⟩ ρ' ⟨argsD 0 vs, st.H⟩ (Abs.argEnv 0 avs') h1 := ⟨argsD_enc a1, hs.heap, hs.fr⟩
        obtain ⟨ρ2, st2, c1, c2⟩ := restrict_ok hF hs' hk
        split at c1
        · rename_i us hus
          cases c1
          exact ⟨L, h1, packA avs', .refl _ _, res_pack hrs a2 (Weak.refl _), .inl ⟨ρ2, packR_ok (looksD_ok c2.slots a1.1 hus), c2.heap, c2.fr⟩⟩
        · cases c1
      · cases hk
  rintro e L h1 ⟨ρ', st', k1, k2⟩
  cases e with
  | normal => exact key k1 k2
  | ret => exact key k1 k2
  | _ => cases k1
end
end Go.Proofs.Ytjafncnjefnloaa.Den

/-
  What den knows of the program's types. Printed by wip/den/dp.py.
-/
namespace Go.Proofs.Ytjafncnjefnloaa.Den
open Go.RowKit
def tbl : List (Nat × TI) := [
  (1, ⟨1, false, [.z], [], none, false, false, false, none, none⟩),
  (2, ⟨1, false, [.i 0], [], none, false, true, false, some .i64, none⟩),
  (3, ⟨1, false, [.i 0], [], none, false, true, false, some .i64, none⟩),
  (4, ⟨1, false, [.b false], [], none, false, false, true, none, none⟩),
  (5, ⟨1, false, [.k .u8 0], [], none, false, false, false, some .u8, none⟩),
  (6, ⟨1, false, [.k .u8 0], [], none, false, false, false, some .u8, none⟩),
  (7, ⟨4, true, [.i 0, .i 0, .b false, .k .u8 0], [(0, 2, 1), (1, 3, 1), (2, 4, 1), (3, 6, 1)], none, false, false, false, none, none⟩),
  (8, ⟨4, true, [.i 0, .i 0, .b false, .k .u8 0], [(0, 2, 1), (1, 3, 1), (2, 4, 1), (3, 6, 1)], none, false, false, false, none, none⟩),
  (9, ⟨1, false, [.s ByteArray.empty], [], none, true, false, false, none, none⟩),
  (10, ⟨1, false, [.s ByteArray.empty], [], none, true, false, false, none, none⟩),
  (11, ⟨1, false, [.s ByteArray.empty], [], none, true, false, false, none, none⟩),
  (12, ⟨1, false, [.k .u64 0], [], none, false, false, false, some .u64, none⟩),
  (13, ⟨2, true, [.s ByteArray.empty, .k .u64 0], [(0, 9, 1), (1, 12, 1)], none, false, false, false, none, none⟩),
  (14, ⟨2, true, [.s ByteArray.empty, .k .u64 0], [(0, 9, 1), (1, 12, 1)], none, false, false, false, none, none⟩),
  (15, ⟨1, false, [.z], [], none, false, false, false, none, none⟩),
  (16, ⟨1, false, [.z], [], none, false, false, false, none, none⟩),
  (17, ⟨1, false, [.z], [], none, false, false, false, none, none⟩),
  (18, ⟨1, true, [.z], [(0, 17, 1)], none, false, false, false, none, none⟩),
  (19, ⟨1, true, [.z], [(0, 17, 1)], none, false, false, false, none, none⟩),
  (21, ⟨1, false, [.k .i32 0], [], none, false, false, false, some .i32, none⟩),
  (22, ⟨1, false, [.nil .s], [], some .s, false, false, false, none, none⟩),
  (23, ⟨1, false, [.nil (.n 5)], [], some (.n 5), false, false, false, none, none⟩),
  (24, ⟨2, true, [.nil .s, .nil (.n 5)], [(0, 22, 1), (1, 23, 1)], none, false, false, false, none, none⟩),
  (25, ⟨2, true, [.nil .s, .nil (.n 5)], [(0, 22, 1), (1, 23, 1)], none, false, false, false, none, none⟩),
  (26, ⟨1, false, [.nil (.n 8)], [], some (.n 8), false, false, false, none, none⟩),
  (27, ⟨3, true, [.nil .s, .nil (.n 5), .nil (.n 8)], [(0, 25, 2), (2, 26, 1)], none, false, false, false, none, none⟩),
  (28, ⟨3, true, [.nil .s, .nil (.n 5), .nil (.n 8)], [(0, 25, 2), (2, 26, 1)], none, false, false, false, none, none⟩),
  (29, ⟨1, false, [.nil .i], [], some .i, false, false, false, none, none⟩),
  (30, ⟨1, false, [.z], [], none, false, false, false, none, none⟩),
  (31, ⟨1, false, [.z], [], none, false, false, false, none, none⟩),
  (32, ⟨1, false, [.nil (.n 5)], [], some (.n 5), false, false, false, none, none⟩),
  (33, ⟨2, true, [.nil .s, .nil (.n 5)], [(0, 22, 1), (1, 32, 1)], none, false, false, false, none, none⟩),
  (34, ⟨2, true, [.nil .s, .nil (.n 5)], [(0, 22, 1), (1, 32, 1)], none, false, false, false, none, none⟩),
  (35, ⟨1, false, [.nil (.n 8)], [], some (.n 8), false, false, false, none, none⟩),
  (36, ⟨3, true, [.nil .s, .nil (.n 5), .nil (.n 8)], [(0, 34, 2), (2, 35, 1)], none, false, false, false, none, none⟩),
  (37, ⟨3, true, [.nil .s, .nil (.n 5), .nil (.n 8)], [(0, 34, 2), (2, 35, 1)], none, false, false, false, none, none⟩),
  (38, ⟨1, false, [.z], [], none, false, false, false, none, none⟩),
  (39, ⟨1, false, [.z], [], none, false, false, false, none, none⟩),
  (40, ⟨1, false, [.z], [], none, false, false, false, none, none⟩),
  (41, ⟨1, false, [.z], [], none, false, false, false, none, none⟩),
  (42, ⟨1, false, [.z], [], none, false, false, false, none, none⟩),
  (43, ⟨1, false, [.z], [], none, false, false, false, none, none⟩),
  (44, ⟨1, false, [.z], [], none, false, false, false, none, none⟩),
  (45, ⟨1, false, [.z], [], none, false, false, false, none, none⟩),
  (46, ⟨1, false, [.z], [], none, false, false, false, none, none⟩),
  (47, ⟨1, false, [.nil (.n 7)], [], some (.n 7), false, false, false, none, none⟩),
  (48, ⟨5, true, [.s ByteArray.empty, .nil (.n 7), .b false, .b false, .i 0], [(0, 9, 1), (1, 47, 1), (2, 4, 1), (3, 4, 1), (4, 3, 1)], none, false, false, false, none, none⟩),
  (49, ⟨5, true, [.s ByteArray.empty, .nil (.n 7), .b false, .b false, .i 0], [(0, 9, 1), (1, 47, 1), (2, 4, 1), (3, 4, 1), (4, 3, 1)], none, false, false, false, none, none⟩),
  (50, ⟨1, false, [.z], [], none, false, false, false, none, none⟩),
  (51, ⟨1, false, [.z], [], none, false, false, false, none, none⟩),
  (52, ⟨1, false, [.z], [], none, false, false, false, none, none⟩),
  (53, ⟨1, false, [.z], [], none, false, false, false, none, none⟩),
  (54, ⟨1, false, [.z], [], none, false, false, false, none, none⟩),
  (55, ⟨1, false, [.z], [], none, false, false, false, none, none⟩),
  (56, ⟨1, false, [.z], [], none, false, false, false, none, none⟩),
  (57, ⟨1, false, [.z], [], none, false, false, false, none, none⟩),
  (58, ⟨1, false, [.nil (.n 7)], [], some (.n 7), false, false, false, none, none⟩),
  (59, ⟨5, true, [.s ByteArray.empty, .nil (.n 7), .b false, .b false, .i 0], [(0, 9, 1), (1, 58, 1), (2, 4, 1), (3, 4, 1), (4, 3, 1)], none, false, false, false, none, none⟩),
  (60, ⟨5, true, [.s ByteArray.empty, .nil (.n 7), .b false, .b false, .i 0], [(0, 9, 1), (1, 58, 1), (2, 4, 1), (3, 4, 1), (4, 3, 1)], none, false, false, false, none, none⟩),
  (61, ⟨1, false, [.z], [], none, false, false, false, none, none⟩),
  (62, ⟨1, false, [.z], [], none, false, false, false, none, none⟩),
  (63, ⟨1, false, [.z], [], none, false, false, false, none, none⟩),
  (64, ⟨1, false, [.z], [], none, false, false, false, none, none⟩),
  (65, ⟨1, false, [.z], [], none, false, false, false, none, none⟩),
  (66, ⟨1, false, [.z], [], none, false, false, false, none, none⟩),
  (67, ⟨1, false, [.z], [], none, false, false, false, none, none⟩),
  (68, ⟨3, true, [.nil .i, .nil .i, .nil .i], [(0, 29, 1), (1, 29, 1), (2, 29, 1)], none, false, false, false, none, none⟩),
  (69, ⟨3, true, [.nil .i, .nil .i, .nil .i], [(0, 29, 1), (1, 29, 1), (2, 29, 1)], none, false, false, false, none, none⟩),
  (71, ⟨1, false, [.z], [], none, false, false, false, none, none⟩),
  (72, ⟨1, false, [.z], [], none, false, false, false, none, some .b⟩),
  (73, ⟨1, false, [.z], [], none, false, false, false, none, none⟩),
  (74, ⟨1, false, [.z], [], none, false, false, false, none, none⟩),
  (75, ⟨1, false, [.z], [], none, false, false, false, none, none⟩),
  (76, ⟨1, false, [.z], [], none, false, false, false, none, none⟩),
  (77, ⟨1, false, [.z], [], none, false, false, false, none, none⟩),
  (78, ⟨1, false, [.z], [], none, false, false, false, none, none⟩),
  (79, ⟨1, false, [.z], [], none, false, false, false, none, none⟩),
  (80, ⟨2, true, [.i 0, .i 0], [(0, 3, 1), (1, 3, 1)], none, false, false, false, none, none⟩),
  (81, ⟨2, true, [.i 0, .i 0], [(0, 3, 1), (1, 3, 1)], none, false, false, false, none, none⟩),
  (82, ⟨1, false, [.z], [], none, false, false, false, none, none⟩),
  (83, ⟨1, false, [.z], [], none, false, false, false, none, none⟩),
  (84, ⟨2, true, [.nil .i, .i 0], [(0, 29, 1), (1, 3, 1)], none, false, false, false, none, none⟩),
  (85, ⟨2, true, [.nil .i, .i 0], [(0, 29, 1), (1, 3, 1)], none, false, false, false, none, none⟩),
  (86, ⟨1, false, [.z], [], none, false, false, false, none, none⟩),
  (87, ⟨1, false, [.z], [], none, false, false, false, none, none⟩),
  (88, ⟨2, true, [.i 0, .i 0], [(0, 3, 1), (1, 3, 1)], none, false, false, false, none, none⟩),
  (89, ⟨1, false, [.z], [], none, false, false, false, none, none⟩),
  (90, ⟨1, false, [.z], [], none, false, false, false, none, none⟩),
  (91, ⟨1, false, [.z], [], none, false, false, false, none, none⟩),
  (92, ⟨1, false, [.z], [], none, false, false, false, none, none⟩),
  (93, ⟨1, false, [.z], [], none, false, false, false, none, none⟩),
  (94, ⟨1, false, [.z], [], none, false, false, false, none, none⟩),
  (95, ⟨1, false, [.z], [], none, false, false, false, none, none⟩),
  (96, ⟨2, true, [.nil .i, .i 0], [(0, 29, 1), (1, 3, 1)], none, false, false, false, none, none⟩),
  (97, ⟨1, false, [.z], [], none, false, false, false, none, none⟩),
  (98, ⟨1, false, [.k .u64 0], [], none, false, false, false, some .u64, none⟩),
  (99, ⟨1, false, [.z], [], none, false, false, false, none, none⟩),
  (100, ⟨1, false, [.z], [], none, false, false, false, none, none⟩),
  (101, ⟨1, false, [.z], [], none, false, false, false, none, none⟩),
  (102, ⟨1, false, [.z], [], none, false, false, false, none, none⟩),
  (103, ⟨1, false, [.z], [], none, false, false, false, none, none⟩),
  (104, ⟨4, true, [.z, .z, .z, .s ByteArray.empty], [(0, 17, 1), (1, 17, 1), (2, 17, 1), (3, 9, 1)], none, false, false, false, none, none⟩),
  (105, ⟨4, true, [.z, .z, .z, .s ByteArray.empty], [(0, 17, 1), (1, 17, 1), (2, 17, 1), (3, 9, 1)], none, false, false, false, none, none⟩),
  (109, ⟨1, false, [.z], [], none, false, false, false, none, none⟩),
  (110, ⟨1, false, [.k .u32 0], [], none, false, false, false, some .u32, none⟩),
  (111, ⟨1, false, [.k .u8 0], [], none, false, false, false, some .u8, none⟩),
  (112, ⟨1, false, [.k .u8 0], [], none, false, false, false, some .u8, none⟩),
  (113, ⟨1, false, [.z], [], none, false, false, false, none, none⟩),
  (114, ⟨1, false, [.z], [], none, false, false, false, none, none⟩),
  (115, ⟨1, false, [.k .i32 0], [], none, false, false, false, some .i32, none⟩),
  (116, ⟨1, false, [.k .i32 0], [], none, false, false, false, some .i32, none⟩),
  (117, ⟨11, true, [.k .u64 0, .k .u64 0, .k .u32 0, .k .u8 0, .k .u8 0, .k .u8 0, .k .u8 0, .z, .z, .k .i32 0, .k .i32 0], [(0, 12, 1), (1, 12, 1), (2, 110, 1), (3, 111, 1), (4, 5, 1), (5, 5, 1), (6, 112, 1), (7, 113, 1), (8, 114, 1), (9, 115, 1), (10, 116, 1)], none, false, false, false, none, none⟩),
  (118, ⟨11, true, [.k .u64 0, .k .u64 0, .k .u32 0, .k .u8 0, .k .u8 0, .k .u8 0, .k .u8 0, .z, .z, .k .i32 0, .k .i32 0], [(0, 12, 1), (1, 12, 1), (2, 110, 1), (3, 111, 1), (4, 5, 1), (5, 5, 1), (6, 112, 1), (7, 113, 1), (8, 114, 1), (9, 115, 1), (10, 116, 1)], none, false, false, false, none, none⟩)]
def tb (t : Nat) : Option TI := tbl.lookup t
noncomputable def tblOK : Bool := tbl.all fun p => match Abs.tyOf Try.prog p.1 with
  | some i => tiOK i p.2 && mapOK Try.prog p.1 p.2
  | none => false
theorem tblOK_true : tblOK = true := by kernel_rfl
theorem mixed : Try.prog.follows .mixedOrders = true := by kernel_rfl
theorem tb_ok : TBOK Try.prog tb := fun t ti h => by
  have hm : (t, ti) ∈ tbl := lookup_mem h
  have := List.all_eq_true.1 tblOK_true _ hm
  simp only at this
  split at this
  · rename_i i hi; rw [Bool.and_eq_true] at this; exact ⟨i, hi, this.1, this.2⟩
  · cases this
namespace l_FnExactIsConstructors
noncomputable def ent (g : Sg → List Int → Option (Bool)) : Ent := ⟨3, 0, [0, 0], fun _ xs H K => match xs, H with
  | [.agg [.l .s a, .l (.n 5) a2, .l (.n 8) a3], .one (.l .i a4)], [] => Option.bind (g (Sg.mk (So.mk a a2) a3) a4) fun r => K (.one (.b r)) []
  | _, _ => none⟩
end l_FnExactIsConstructors
namespace l_szSignature
noncomputable def ent (g : Sg → Int → Option (Int)) : Ent := ⟨4, 0, [0, 0], fun _ xs H K => match xs, H with
  | [.agg [.l .s a, .l (.n 5) a2, .l (.n 8) a3], .one (.i a4)], [] => Option.bind (g (Sg.mk (So.mk a a2) a3) a4) fun r => K (.one (.i r)) []
  | _, _ => none⟩
end l_szSignature
namespace s_IsConstructors
noncomputable def ent (g : Sg → List Int → Option (Bool)) : Ent := ⟨5, 0, [0, 0], fun _ xs H K => match xs, H with
  | [.agg [.l .s a, .l (.n 5) a2, .l (.n 8) a3], .one (.l .i a4)], [] => Option.bind (g (Sg.mk (So.mk a a2) a3) a4) fun r => K (.one (.b r)) []
  | _, _ => none⟩
end s_IsConstructors
namespace l_toSignature
noncomputable def ent (g : Sg → Option (Sg)) : Ent := ⟨6, 1, [0], fun _ xs H K => match xs, H with
  | [.agg [.l .s a, .l (.n 5) a2, .l (.n 8) a3]], [] => Option.bind (g (Sg.mk (So.mk a a2) a3)) fun r => K (.agg [.l .s (So.names (Sg.sorts r)), .l (.n 5) (So.subs (Sg.sorts r)), .l (.n 8) (Sg.ops r)]) []
  | _, _ => none⟩
end l_toSignature
namespace l_toIntS
noncomputable def ent (g : List Int → Option (List Int)) : Ent := ⟨7, 1, [0], fun _ xs H K => match xs, H with
  | [.one (.l .i a)], [] => Option.bind (g a) fun r => K (.one (.l .i r)) []
  | _, _ => none⟩
end l_toIntS
namespace i_IsConstructors
noncomputable def ent (g : Sg → List Int → Option (Bool)) : Ent := ⟨8, 0, [0, 0], fun _ xs H K => match xs, H with
  | [.agg [.l .s a, .l (.n 5) a2, .l (.n 8) a3], .one (.l .i a4)], [] => Option.bind (g (Sg.mk (So.mk a a2) a3) a4) fun r => K (.one (.b r)) []
  | _, _ => none⟩
end i_IsConstructors
namespace l_eqSignature
noncomputable def ent (g : Sg → Sg → Option (Bool)) : Ent := ⟨9, 0, [0, 0], fun _ xs H K => match xs, H with
  | [.agg [.l .s a, .l (.n 5) a2, .l (.n 8) a3], .agg [.l .s a4, .l (.n 5) a5, .l (.n 8) a6]], [] => Option.bind (g (Sg.mk (So.mk a a2) a3) (Sg.mk (So.mk a4 a5) a6)) fun r => K (.one (.b r)) []
  | _, _ => none⟩
end l_eqSignature
namespace l_eqIntS
noncomputable def ent (g : List Int → List Int → Option (Bool)) : Ent := ⟨10, 0, [0, 0], fun _ xs H K => match xs, H with
  | [.one (.l .i a), .one (.l .i a2)], [] => Option.bind (g a a2) fun r => K (.one (.b r)) []
  | _, _ => none⟩
end l_eqIntS
namespace l_szSorts
noncomputable def ent (g : So → Int → Option (Int)) : Ent := ⟨11, 0, [0, 0], fun _ xs H K => match xs, H with
  | [.agg [.l .s a, .l (.n 5) a2], .one (.i a3)], [] => Option.bind (g (So.mk a a2) a3) fun r => K (.one (.i r)) []
  | _, _ => none⟩
end l_szSorts
namespace l_szOpS
noncomputable def ent (g : List Opr → Int → Option (Int)) : Ent := ⟨12, 0, [0, 0], fun _ xs H K => match xs, H with
  | [.one (.l (.n 8) a), .one (.i a2)], [] => Option.bind (g a a2) fun r => K (.one (.i r)) []
  | _, _ => none⟩
end l_szOpS
namespace s_IsSignature
noncomputable def ent (g : Sg → Option (Bool)) : Ent := ⟨13, 0, [0], fun _ xs H K => match xs, H with
  | [.agg [.l .s a, .l (.n 5) a2, .l (.n 8) a3]], [] => Option.bind (g (Sg.mk (So.mk a a2) a3)) fun r => K (.one (.b r)) []
  | _, _ => none⟩
end s_IsSignature
namespace s_l1In
noncomputable def ent (g : Int → Int → Int → Option (Bool)) : Ent := ⟨14, 0, [0, 0, 0], fun _ xs H K => match xs, H with
  | [.one (.i a), .one (.i a2), .one (.i a3)], [] => Option.bind (g a a2 a3) fun r => K (.one (.b r)) []
  | _, _ => none⟩
end s_l1In
namespace l_toSorts
noncomputable def ent (g : So → Option (So)) : Ent := ⟨15, 1, [0], fun _ xs H K => match xs, H with
  | [.agg [.l .s a, .l (.n 5) a2]], [] => Option.bind (g (So.mk a a2)) fun r => K (.agg [.l .s (So.names r), .l (.n 5) (So.subs r)]) []
  | _, _ => none⟩
end l_toSorts
namespace l_toOpS
noncomputable def ent (g : List Opr → Option (List Opr)) : Ent := ⟨16, 1, [0], fun _ xs H K => match xs, H with
  | [.one (.l (.n 8) a)], [] => Option.bind (g a) fun r => K (.one (.l (.n 8) r)) []
  | _, _ => none⟩
end l_toOpS
namespace i_IsSignature
noncomputable def ent (g : Sg → Option (Bool)) : Ent := ⟨17, 0, [0], fun _ xs H K => match xs, H with
  | [.agg [.l .s a, .l (.n 5) a2, .l (.n 8) a3]], [] => Option.bind (g (Sg.mk (So.mk a a2) a3)) fun r => K (.one (.b r)) []
  | _, _ => none⟩
end i_IsSignature
namespace i_singleOp
noncomputable def ent (g : Opr → Option (Bool)) : Ent := ⟨18, 0, [0], fun _ xs H K => match xs, H with
  | [.agg [.s a, .l (.n 7) a2, .b a3, .b a4, .i a5]], [] => Option.bind (g (Opr.mk a a2 a3 a4 a5)) fun r => K (.one (.b r)) []
  | _, _ => none⟩
end i_singleOp
namespace l_eqSorts
noncomputable def ent (g : So → So → Option (Bool)) : Ent := ⟨19, 0, [0, 0], fun _ xs H K => match xs, H with
  | [.agg [.l .s a, .l (.n 5) a2], .agg [.l .s a3, .l (.n 5) a4]], [] => Option.bind (g (So.mk a a2) (So.mk a3 a4)) fun r => K (.one (.b r)) []
  | _, _ => none⟩
end l_eqSorts
namespace l_eqOpS
noncomputable def ent (g : List Opr → List Opr → Option (Bool)) : Ent := ⟨20, 0, [0, 0], fun _ xs H K => match xs, H with
  | [.one (.l (.n 8) a), .one (.l (.n 8) a2)], [] => Option.bind (g a a2) fun r => K (.one (.b r)) []
  | _, _ => none⟩
end l_eqOpS
namespace l_szStringS
noncomputable def ent (g : List ByteArray → Int → Option (Int)) : Ent := ⟨21, 0, [0, 0], fun _ xs H K => match xs, H with
  | [.one (.l .s a), .one (.i a2)], [] => Option.bind (g a a2) fun r => K (.one (.i r)) []
  | _, _ => none⟩
end l_szStringS
namespace l_szSubS
noncomputable def ent (g : List Sb → Int → Option (Int)) : Ent := ⟨22, 0, [0, 0], fun _ xs H K => match xs, H with
  | [.one (.l (.n 5) a), .one (.i a2)], [] => Option.bind (g a a2) fun r => K (.one (.i r)) []
  | _, _ => none⟩
end l_szSubS
namespace l_szOp
noncomputable def ent (g : Opr → Int → Option (Int)) : Ent := ⟨23, 0, [0, 0], fun _ xs H K => match xs, H with
  | [.agg [.s a, .l (.n 7) a2, .b a3, .b a4, .i a5], .one (.i a6)], [] => Option.bind (g (Opr.mk a a2 a3 a4 a5) a6) fun r => K (.one (.i r)) []
  | _, _ => none⟩
end l_szOp
namespace s_IsSorts
noncomputable def ent (g : So → Option (Bool)) : Ent := ⟨24, 0, [0], fun _ xs H K => match xs, H with
  | [.agg [.l .s a, .l (.n 5) a2]], [] => Option.bind (g (So.mk a a2)) fun r => K (.one (.b r)) []
  | _, _ => none⟩
end s_IsSorts
namespace s_IsName
noncomputable def ent (g : ByteArray → Option (Bool)) : Ent := ⟨25, 0, [0], fun _ xs H K => match xs, H with
  | [.one (.s a)], [] => Option.bind (g a) fun r => K (.one (.b r)) []
  | _, _ => none⟩
end s_IsName
namespace s_l4Decls
noncomputable def ent (g : Sg → Opr → Option (Bool)) : Ent := ⟨26, 0, [0, 0], fun _ xs H K => match xs, H with
  | [.agg [.l .s a, .l (.n 5) a2, .l (.n 8) a3], .agg [.s a4, .l (.n 7) a5, .b a6, .b a7, .i a8]], [] => Option.bind (g (Sg.mk (So.mk a a2) a3) (Opr.mk a4 a5 a6 a7 a8)) fun r => K (.one (.b r)) []
  | _, _ => none⟩
end s_l4Decls
namespace s_l4Axioms
noncomputable def ent (g : Sg → Int → Option (Bool)) : Ent := ⟨27, 0, [0, 0], fun _ xs H K => match xs, H with
  | [.agg [.l .s a, .l (.n 5) a2, .l (.n 8) a3], .one (.i a4)], [] => Option.bind (g (Sg.mk (So.mk a a2) a3) a4) fun r => K (.one (.b r)) []
  | _, _ => none⟩
end s_l4Axioms
namespace l_toStringS
noncomputable def ent (g : List ByteArray → Option (List ByteArray)) : Ent := ⟨28, 1, [0], fun _ xs H K => match xs, H with
  | [.one (.l .s a)], [] => Option.bind (g a) fun r => K (.one (.l .s r)) []
  | _, _ => none⟩
end l_toStringS
namespace l_toSubS
noncomputable def ent (g : List Sb → Option (List Sb)) : Ent := ⟨29, 1, [0], fun _ xs H K => match xs, H with
  | [.one (.l (.n 5) a)], [] => Option.bind (g a) fun r => K (.one (.l (.n 5) r)) []
  | _, _ => none⟩
end l_toSubS
namespace l_toOp
noncomputable def ent (g : Opr → Option (Opr)) : Ent := ⟨30, 1, [0], fun _ xs H K => match xs, H with
  | [.agg [.s a, .l (.n 7) a2, .b a3, .b a4, .i a5]], [] => Option.bind (g (Opr.mk a a2 a3 a4 a5)) fun r => K (.agg [.s (Opr.name r), .l (.n 7) (Opr.decls r), .b (Opr.assoc r), .b (Opr.comm r), .i (Opr.unit r)]) []
  | _, _ => none⟩
end l_toOp
namespace i_newOrder
noncomputable def ent (g : So → Option (Od × Bool)) : Ent := ⟨31, 1, [0], fun _ xs H K => match xs, H with
  | [.agg [.l .s a, .l (.n 5) a2]], [] => Option.bind (g (So.mk a a2)) fun r => K (.tup [.agg [.l .i (Od.above r.1), .l .i (Od.below r.1), .l .i (Od.kind r.1)], .one (.b r.2)]) []
  | _, _ => none⟩
end i_newOrder
namespace i_IsName
noncomputable def ent (g : ByteArray → Option (Bool)) : Ent := ⟨32, 0, [0], fun _ xs H K => match xs, H with
  | [.one (.s a)], [] => Option.bind (g a) fun r => K (.one (.b r)) []
  | _, _ => none⟩
end i_IsName
namespace i_declsOK
noncomputable def ent (g : Od → Opr → Option (Bool)) : Ent := ⟨33, 0, [0, 0], fun _ xs H K => match xs, H with
  | [.agg [.l .i a, .l .i a2, .l .i a3], .agg [.s a4, .l (.n 7) a5, .b a6, .b a7, .i a8]], [] => Option.bind (g (Od.mk a a2 a3) (Opr.mk a4 a5 a6 a7 a8)) fun r => K (.one (.b r)) []
  | _, _ => none⟩
end i_declsOK
namespace i_axiomsOK
noncomputable def ent (g : Od → Sg → Opr → Option (Bool)) : Ent := ⟨34, 0, [0, 0, 0], fun _ xs H K => match xs, H with
  | [.agg [.l .i a, .l .i a2, .l .i a3], .agg [.l .s a4, .l (.n 5) a5, .l (.n 8) a6], .agg [.s a7, .l (.n 7) a8, .b a9, .b a10, .i a11]], [] => Option.bind (g (Od.mk a a2 a3) (Sg.mk (So.mk a4 a5) a6) (Opr.mk a7 a8 a9 a10 a11)) fun r => K (.one (.b r)) []
  | _, _ => none⟩
end i_axiomsOK
namespace l_eqStringS
noncomputable def ent (g : List ByteArray → List ByteArray → Option (Bool)) : Ent := ⟨35, 0, [0, 0], fun _ xs H K => match xs, H with
  | [.one (.l .s a), .one (.l .s a2)], [] => Option.bind (g a a2) fun r => K (.one (.b r)) []
  | _, _ => none⟩
end l_eqStringS
namespace l_eqSubS
noncomputable def ent (g : List Sb → List Sb → Option (Bool)) : Ent := ⟨36, 0, [0, 0], fun _ xs H K => match xs, H with
  | [.one (.l (.n 5) a), .one (.l (.n 5) a2)], [] => Option.bind (g a a2) fun r => K (.one (.b r)) []
  | _, _ => none⟩
end l_eqSubS
namespace l_eqOp
noncomputable def ent (g : Opr → Opr → Option (Bool)) : Ent := ⟨37, 0, [0, 0], fun _ xs H K => match xs, H with
  | [.agg [.s a, .l (.n 7) a2, .b a3, .b a4, .i a5], .agg [.s a6, .l (.n 7) a7, .b a8, .b a9, .i a10]], [] => Option.bind (g (Opr.mk a a2 a3 a4 a5) (Opr.mk a6 a7 a8 a9 a10)) fun r => K (.one (.b r)) []
  | _, _ => none⟩
end l_eqOp
namespace l_szDeclS
noncomputable def ent (g : List Dc → Int → Option (Int)) : Ent := ⟨38, 0, [0, 0], fun _ xs H K => match xs, H with
  | [.one (.l (.n 7) a), .one (.i a2)], [] => Option.bind (g a a2) fun r => K (.one (.i r)) []
  | _, _ => none⟩
end l_szDeclS
namespace s_l1Has
noncomputable def ent (g : List ByteArray → ByteArray → Option (Bool)) : Ent := ⟨39, 0, [0, 0], fun _ xs H K => match xs, H with
  | [.one (.l .s a), .one (.s a2)], [] => Option.bind (g a a2) fun r => K (.one (.b r)) []
  | _, _ => none⟩
end s_l1Has
namespace s_l3Up
noncomputable def ent (g : So → Option (List Int)) : Ent := ⟨40, 1, [0], fun _ xs H K => match xs, H with
  | [.agg [.l .s a, .l (.n 5) a2]], [] => Option.bind (g (So.mk a a2)) fun r => K (.one (.l .i r)) []
  | _, _ => none⟩
end s_l3Up
namespace s_l2Has
noncomputable def ent (g : Int → Int → Option (Bool)) : Ent := ⟨41, 0, [0, 0], fun _ xs H K => match xs, H with
  | [.one (.i a), .one (.i a2)], [] => Option.bind (g a a2) fun r => K (.one (.b r)) []
  | _, _ => none⟩
end s_l2Has
namespace s_l3Kinds
noncomputable def ent (g : So → Option (List Int)) : Ent := ⟨42, 1, [0], fun _ xs H K => match xs, H with
  | [.agg [.l .s a, .l (.n 5) a2]], [] => Option.bind (g (So.mk a a2)) fun r => K (.one (.l .i r)) []
  | _, _ => none⟩
end s_l3Kinds
namespace s_l4Arity
noncomputable def ent (g : Opr → Option (Int)) : Ent := ⟨43, 0, [0], fun _ xs H K => match xs, H with
  | [.agg [.s a, .l (.n 7) a2, .b a3, .b a4, .i a5]], [] => Option.bind (g (Opr.mk a a2 a3 a4 a5)) fun r => K (.one (.i r)) []
  | _, _ => none⟩
end s_l4Arity
namespace l_toSub
noncomputable def ent (g : Sb → Option (Sb)) : Ent := ⟨44, 1, [0], fun _ xs H K => match xs, H with
  | [.agg [.i a, .i a2]], [] => Option.bind (g (Sb.mk a a2)) fun r => K (.agg [.i (Sb.low r), .i (Sb.high r)]) []
  | _, _ => none⟩
end l_toSub
namespace l_toDeclS
noncomputable def ent (g : List Dc → Option (List Dc)) : Ent := ⟨45, 1, [0], fun _ xs H K => match xs, H with
  | [.one (.l (.n 7) a)], [] => Option.bind (g a) fun r => K (.one (.l (.n 7) r)) []
  | _, _ => none⟩
end l_toDeclS
namespace i_IsSorts
noncomputable def ent (g : So → Option (Bool)) : Ent := ⟨46, 0, [0], fun _ xs H K => match xs, H with
  | [.agg [.l .s a, .l (.n 5) a2]], [] => Option.bind (g (So.mk a a2)) fun r => K (.one (.b r)) []
  | _, _ => none⟩
end i_IsSorts
namespace i_sortsAbove
noncomputable def ent (g : So → Option (List Int)) : Ent := ⟨47, 1, [0], fun _ xs H K => match xs, H with
  | [.agg [.l .s a, .l (.n 5) a2]], [] => Option.bind (g (So.mk a a2)) fun r => K (.one (.l .i r)) []
  | _, _ => none⟩
end i_sortsAbove
namespace i_ListOf
noncomputable def ent (g : Int → Option (List Int)) : Ent := ⟨48, 1, [0], fun _ xs H K => match xs, H with
  | [.one (.i a)], [] => Option.bind (g a) fun r => K (.one (.l .i r)) []
  | _, _ => none⟩
end i_ListOf
namespace i_nameByte
noncomputable def ent (g : Int → Option (Bool)) : Ent := ⟨49, 0, [0], fun _ xs H K => match xs, H with
  | [.one (.k .u8 a)], [] => Option.bind (g a) fun r => K (.one (.b r)) []
  | _, _ => none⟩
end i_nameByte
namespace i_order_has
noncomputable def ent (g : Od → Int → Option (Bool)) : Ent := ⟨50, 0, [0, 0], fun _ xs H K => match xs, H with
  | [.agg [.l .i a, .l .i a2, .l .i a3], .one (.i a4)], [] => Option.bind (g (Od.mk a a2 a3) a4) fun r => K (.one (.b r)) []
  | _, _ => none⟩
end i_order_has
namespace l_eqSub
noncomputable def ent (g : Sb → Sb → Option (Bool)) : Ent := ⟨51, 0, [0, 0], fun _ xs H K => match xs, H with
  | [.agg [.i a, .i a2], .agg [.i a3, .i a4]], [] => Option.bind (g (Sb.mk a a2) (Sb.mk a3 a4)) fun r => K (.one (.b r)) []
  | _, _ => none⟩
end l_eqSub
namespace l_eqDeclS
noncomputable def ent (g : List Dc → List Dc → Option (Bool)) : Ent := ⟨52, 0, [0, 0], fun _ xs H K => match xs, H with
  | [.one (.l (.n 7) a), .one (.l (.n 7) a2)], [] => Option.bind (g a a2) fun r => K (.one (.b r)) []
  | _, _ => none⟩
end l_eqDeclS
namespace l_szDecl
noncomputable def ent (g : Dc → Int → Option (Int)) : Ent := ⟨53, 0, [0, 0], fun _ xs H K => match xs, H with
  | [.agg [.l .i a, .i a2], .one (.i a3)], [] => Option.bind (g (Dc.mk a a2) a3) fun r => K (.one (.i r)) []
  | _, _ => none⟩
end l_szDecl
namespace s_l2Bit
noncomputable def ent (g : Int → Option (Int)) : Ent := ⟨54, 0, [0], fun _ xs H K => match xs, H with
  | [.one (.i a)], [] => Option.bind (g a) fun r => K (.one (.i r)) []
  | _, _ => none⟩
end s_l2Bit
namespace s_l1Min
noncomputable def ent (g : Int → Int → Option (Int)) : Ent := ⟨55, 0, [0, 0], fun _ xs H K => match xs, H with
  | [.one (.i a), .one (.i a2)], [] => Option.bind (g a a2) fun r => K (.one (.i r)) []
  | _, _ => none⟩
end s_l1Min
namespace l_toDecl
noncomputable def ent (g : Dc → Option (Dc)) : Ent := ⟨56, 1, [0], fun _ xs H K => match xs, H with
  | [.agg [.l .i a, .i a2]], [] => Option.bind (g (Dc.mk a a2)) fun r => K (.agg [.l .i (Dc.args r), .i (Dc.result r)]) []
  | _, _ => none⟩
end l_toDecl
namespace i_isSet
noncomputable def ent (g : Int → Option (Bool)) : Ent := ⟨57, 0, [0], fun _ xs H K => match xs, H with
  | [.one (.i a)], [] => Option.bind (g a) fun r => K (.one (.b r)) []
  | _, _ => none⟩
end i_isSet
namespace l_eqDecl
noncomputable def ent (g : Dc → Dc → Option (Bool)) : Ent := ⟨58, 0, [0, 0], fun _ xs H K => match xs, H with
  | [.agg [.l .i a, .i a2], .agg [.l .i a3, .i a4]], [] => Option.bind (g (Dc.mk a a2) (Dc.mk a3 a4)) fun r => K (.one (.b r)) []
  | _, _ => none⟩
end l_eqDecl
namespace l_szIntS
noncomputable def ent (g : List Int → Int → Option (Int)) : Ent := ⟨59, 0, [0, 0], fun _ xs H K => match xs, H with
  | [.one (.l .i a), .one (.i a2)], [] => Option.bind (g a a2) fun r => K (.one (.i r)) []
  | _, _ => none⟩
end l_szIntS
end Go.Proofs.Ytjafncnjefnloaa.Den

/-
  What is read as data lies in memory as typed data: for any table of types; laws that are called with it.
-/
namespace Go.Proofs.Ytjafncnjefnloaa.Den
open Go.ChangeShapes Go.WideShapes Go.ChangeAt Go.RowKit Go.Deep Go.Joins
open Abs (V AV VRs VR)

def memT (TM : List (Nat × Ty)) (t : Nat) (T : Ty) : Bool := TM.any fun p => Nat.beq p.1 t && decide (p.2 = T)
theorem memT_iff {TM : List (Nat × Ty)} {t : Nat} {T : Ty} (h : memT TM t T = true) : (t, T) ∈ TM := by
  obtain ⟨p, h1, h2⟩ := List.any_eq_true.1 h
  rw [Bool.and_eq_true] at h2
  have e1 := Nat.eq_of_beq_eq_true h2.1
  have e2 := of_decide_eq_true h2.2
  rw [← e1, ← e2]
  exact h1
noncomputable def fieldsT (P : Program) (TM : List (Nat × Ty)) : List Field → List Ty → Nat → Bool
  | [], [], _ => true
  | f :: fs, T :: Ts, off => Nat.beq f.offset off && Nat.beq (P.cellsOf f.type) (szT T) && memT TM f.type T && fieldsT P TM fs Ts (off + szT T)
  | _, _, _ => false
def szTs : List Ty → Nat
  | [] => 0
  | T :: Ts => szT T + szTs Ts
/-- A type of the program and a type of data fit. -/
noncomputable def stepT (P : Program) (TM : List (Nat × Ty)) (t : Nat) : Ty → Bool
  | .i => match P.underlying t with | some (.int .i64) => true | _ => false
  | .b => match P.underlying t with | some .bool => true | _ => false
  | .s => match P.underlying t with | some .string => true | _ => false
  | .u => match P.underlying t with | some (.int .u8) => true | _ => false
  | .sl T => match P.underlying t with
    | some (.slice e) => Nat.beq (P.cellsOf e) (szT T) && Nat.blt 0 (szT T) && memT TM e T
    | _ => false
  | .n k => match P.underlying t with
    | some (.struct fs) => Nat.beq (P.cellsOf t) (szTs (flds k)) && Nat.blt 0 (szT (.n k)) && fieldsT P TM fs.toList (flds k) 0
    | _ => false
def TMOK (P : Program) (TM : List (Nat × Ty)) : Prop := ∀ p ∈ TM, stepT P TM p.1 p.2 = true

/-- A datum that lies there. -/
def Lies (w : World) (T : Ty) (cs : List Value) : Prop := ∃ (d : I T) (vs : List V), FRs (explode T d) vs ∧ VRs [] (fun b => b < w.heap.size) w vs cs
theorem lies1 {w : World} {T : Ty} {d : I T} {c : C} {v : V} {u : Value} (he : explode T d = [c]) (hf : FR c v) (hv : VR (fun b => b < w.heap.size) w [] v u) : Lies w T [u] :=
  ⟨d, [v], by rw [he]; exact ⟨rfl, fun j h1 h2 => by
    have : j = 0 := by simp at h2; omega
    subst this; exact hf⟩, ⟨rfl, fun j hj => by
    have : j = 0 := by simp at hj; omega
    subst this; exact ⟨u, rfl, hv⟩⟩⟩

section
variable {H : Type} {enc : TypeId × Value → H} {P : Program} {w : World} {base : Nat} {spare : Nat → Bool} {held : Bool} {TM : List (Nat × Ty)}

theorem read_fields {fuel : Nat} {cs : List Value} {xs : List (DataW H × List MemPlace)} (ih : ∀ t T cs x, memT TM t T = true → DataW.trod enc P w base spare held fuel t cs = some x → Lies w T cs) : ∀ {fs : List Field} {Ts : List Ty} {off k : Nat}, fieldsT P TM fs Ts off = true → cs.length = off + szTs Ts → xs.length = k + fs.length →
    (∀ (i : Nat) (f : Field), fs[i]? = some f → DataW.trod enc P w base spare held fuel f.type ((cs.drop f.offset).take (P.cellsOf f.type)) = xs[k + i]?) →
    ∃ ds vs, Flds Ts ds ∧ FRs ds vs ∧ VRs [] (fun b => b < w.heap.size) w vs (cs.drop off)
  | [], [], off, k, _, hl, _, _ => ⟨[], [], .nil, ⟨rfl, fun j h => by simp at h⟩, by
      rw [List.drop_eq_nil_of_le (by simp [szTs] at hl; omega)]
      exact ⟨rfl, fun j h => by simp at h⟩⟩
  | f :: fs, T :: Ts, off, k, h, hl, hx, hf => by
    simp only [fieldsT, Bool.and_eq_true] at h
    obtain ⟨⟨⟨h1, h2⟩, h3⟩, h4⟩ := h
    have h1 := Nat.eq_of_beq_eq_true h1
    have h2 := Nat.eq_of_beq_eq_true h2
    have e0 := hf 0 f rfl
    simp only [List.length_cons] at hx
    simp only [szTs] at hl
    rw [Nat.add_zero, List.getElem?_eq_getElem (by omega)] at e0
    rw [h1, h2] at e0
    obtain ⟨d, vs, a1, a2⟩ := ih f.type T _ _ h3 e0
    obtain ⟨ds, us, b1, b2, b3⟩ := read_fields (cs := cs) (xs := xs) ih (k := k + 1) h4 (by omega) (by omega) (fun i g hg => by rw [hf (i + 1) g (by simpa using hg)]; congr 1; omega)
    refine ⟨explode T d ++ ds, vs ++ us, .cons d b1, a1.app b2, ?_⟩
    have e1 : cs.drop off = (cs.drop off).take (szT T) ++ cs.drop (off + szT T) := by rw [← List.drop_drop, List.take_append_drop]
    rw [e1]
    exact a2.append b3
  | [], _ :: _, _, _, h, _, _, _ => by simp [fieldsT] at h
  | _ :: _, [], _, _, h, _, _, _ => by simp [fieldsT] at h

theorem read_ty (hTM : TMOK P TM) : ∀ (fuel : Nat) (t : Nat) (T : Ty) (cs : List Value) (x : DataW H × List MemPlace), memT TM t T = true → DataW.trod enc P w base spare held fuel t cs = some x → Lies w T cs := by
  intro fuel
  induction fuel using Nat.strongRecOn with
  | ind fuel ih =>
    intro t T cs x hm h
    have hs := hTM _ (memT_iff hm)
    simp only at hs
    cases T with
    | i =>
      simp only [stepT] at hs
      split at hs
      · rename_i ht
        obtain ⟨n, rfl, _, wf⟩ := DataW.trod_int ht h
        exact lies1 (T := .i) (d := n) rfl .i (.lit wf)
      · cases hs
    | b =>
      simp only [stepT] at hs
      split at hs
      · rename_i ht
        obtain ⟨b, rfl, _⟩ := DataW.trod_bool ht h
        exact lies1 (T := .b) (d := b) rfl .b (.lit trivial)
      · cases hs
    | s =>
      simp only [stepT] at hs
      split at hs
      · rename_i ht
        obtain ⟨s, rfl, _, wf⟩ := DataW.trod_string ht h
        exact lies1 (T := .s) (d := s) rfl .s (.lit wf)
      · cases hs
    | u =>
      simp only [stepT] at hs
      split at hs
      · rename_i ht
        obtain ⟨n, rfl, _, wf⟩ := DataW.trod_int ht h
        exact lies1 (T := .u) (d := n) rfl .k (.lit wf)
      · cases hs
    | sl T =>
      simp only [stepT] at hs
      split at hs
      · rename_i e ht
        simp only [Bool.and_eq_true] at hs
        obtain ⟨⟨h1, h2⟩, h3⟩ := hs
        have h1 := Nat.eq_of_beq_eq_true h1
        have h2 : 0 < szT T := by simpa [Nat.blt_eq] using h2
        obtain ⟨v, rfl⟩ : ∃ v, cs = [v] := by
          rcases DataW.trod_slice ht h with ⟨hc, _⟩ | ⟨a, len, cap, elems, rest, n, _, hc, _⟩
          · exact ⟨_, hc⟩
          · exact ⟨_, hc⟩
        obtain ⟨A, len, cap, rfl, g1, g2, g3⟩ := read_slice ht h1 h2 h
        rcases Nat.eq_zero_or_pos len with rfl | hp
        · exact lies1 (T := .sl T) (d := []) rfl (FR.nil_ h2) (.imm0 g2)
        · obtain ⟨b, off, n, rfl, rfl, g4⟩ := g3 hp
          have key : ∀ i, i < len → ∃ q : I T × List V × List Value, FRs (explode T q.1) q.2.1 ∧ VRs [] (fun b => b < w.heap.size) w q.2.1 q.2.2 ∧ q.2.2.length = szT T ∧ ∀ j, j < szT T → w.cell? ⟨b, off + (i * szT T + j), none⟩ = q.2.2[j]? := fun i hi => by
            obtain ⟨cs, y, k1, k2, k3⟩ := g4 i hi
            obtain ⟨d, vs, k4, k5⟩ := ih n (by omega) e T cs y h3 k3
            exact ⟨(d, vs, cs), k4, k5, k1, k2⟩
          have : Inhabited (I T × List V × List Value) := ⟨Classical.choose (key 0 hp)⟩
          obtain ⟨F, hF⟩ := choose_lt (α := I T × List V × List Value) (n := len) (p := fun i q => FRs (explode T q.1) q.2.1 ∧ VRs [] (fun b => b < w.heap.size) w q.2.1 q.2.2 ∧ q.2.2.length = szT T ∧ ∀ j, j < szT T → w.cell? ⟨b, off + (i * szT T + j), none⟩ = q.2.2[j]?) key
          have hb : b < w.heap.size := by
            obtain ⟨_, _, f3, f4⟩ := hF 0 hp
            have := f4 0 h2
            rw [List.getElem?_eq_getElem (by omega)] at this
            rcases Nat.lt_or_ge b w.heap.size with h | h
            · exact h
            · simp [World.cell?, Array.getElem?_eq_none h] at this
          have hvl : ∀ i, i < len → (F i).2.1.length = szT T := fun i hi => by
            obtain ⟨_, f2, f3, _⟩ := hF i hi
            rw [← f2.1, f3]
          have hfr : FR (.l T ((List.range len).map fun i => (F i).1)) (.imm (szT T) ((List.range len).map fun i => (F i).2.1)) := by
            refine .l h2 (by simp) (fun e he => ?_) (fun m m1 m2 j j1 j2 => ?_)
            · obtain ⟨i, hi, rfl⟩ := List.mem_map.1 he
              exact hvl i (by simpa using hi)
            · have hm : m < len := by simpa using m1
              simp only [List.getElem_map, List.getElem_range] at j1 j2 ⊢
              exact (hF m hm).1.2 j j1 j2
          have hvr : VR (fun b => b < w.heap.size) w [] (.imm (szT T) ((List.range len).map fun i => (F i).2.1)) (.slice (some ⟨b, off, none⟩) len cap) := by
            have hl : ((List.range len).map fun i => (F i).2.1).length = len := by simp
            have := VR.imm (I := fun b => b < w.heap.size) (w := w) (ι := []) (s := szT T) (b := b) (off := off) (c := cap) (es := (List.range len).map fun i => (F i).2.1) (f := fun k j => (F k).2.2.getD j undef) (fun e he => by
              obtain ⟨i, hi, rfl⟩ := List.mem_map.1 he
              exact hvl i (by simpa using hi)) (by rw [hl]; exact g1) g2 hb (fun k j hk hj => by
              rw [hl] at hk
              obtain ⟨_, f2, f3, f4⟩ := hF k hk
              rw [f4 j hj, List.getElem?_eq_getElem (by omega)]
              simp [List.getD, f3, hj]) (fun k hk j hj => by
              have hk' : k < len := by simpa using hk
              simp only [List.getElem_map, List.getElem_range] at hj ⊢
              obtain ⟨_, f2, f3, _⟩ := hF k hk'
              obtain ⟨u, u1, u2⟩ := f2.2 j hj
              have : (F k).2.2.getD j undef = u := by simp [List.getD, u1]
              rw [this]
              exact u2)
            rw [hl] at this
            exact this
          exact lies1 (T := .sl T) (d := (List.range len).map fun i => (F i).1) rfl hfr hvr
      · cases hs
    | n k =>
      simp only [stepT] at hs
      split at hs
      · rename_i fs ht
        simp only [Bool.and_eq_true] at hs
        obtain ⟨⟨h1, h2⟩, h3⟩ := hs
        have h1 := Nat.eq_of_beq_eq_true h1
        have h2 : 0 < szT (.n k) := by simpa [Nat.blt_eq] using h2
        obtain ⟨xs, n, rfl, _, hcl, hxl, hf⟩ := DataW.trod_struct ht h
        obtain ⟨ds, vs, a1, a2, a3⟩ := read_fields (cs := cs) (xs := xs) (k := 0) (fun t T cs x => ih n (by omega) t T cs x) h3 (by rw [hcl, h1]; omega) (by simpa using hxl) (fun i f hi => by rw [Nat.zero_add]; exact hf i f (by simpa using hi))
        obtain ⟨d, rfl⟩ := flds_mk k ds h2 a1
        exact ⟨d, vs, a2, by simpa using a3⟩
      · cases hs
end

/-- A law that is called with data. -/
theorem calls_law {P : Program} {f : FuncId} {xs : List AT} (hc : CFn P f xs [] (.one (.b true)) []) {w : World} {avs : List AV} {vs : Array Value} (hx : ATRs [] [] xs avs) (hA : Abs.ARs [] (fun b => b < w.heap.size) w avs vs) :
    Calls P f vs w fun e w' => e = .returned (.bool true) ∧ Below w.heap.size w w' := by
  have hF := hc [] [] avs HpR.nil_ hx
  refine (hF.2 w (fun b => b < w.heap.size) [] vs (Abs.HR.nil _ w) (fun _ h => h) hA).mono ?_
  rintro e w' ⟨r, h', ι', I', c, ⟨ρ', hr, _, _⟩, rfl, D⟩
  obtain ⟨u, rfl, hu⟩ := hr.one'
  have e1 := hu.bool
  subst e1
  have := D.res.bool
  subst this
  exact ⟨rfl, ⟨D.os, D.tape, D.output, D.grown, fun b hb => D.frame b hb (Abs.noPass b)⟩⟩
/-- An argument that is a structure. -/
theorem arg_agg {w : World} {T : Ty} {v : Value} (hl : Lies w T v.cells.toList) (hv : ∃ cs, v = .agg cs) : ∃ (d : I T) (vs : List V), ATR [] [] (.agg (explode T d)) (.agg vs) ∧ Abs.AR [] (fun b => b < w.heap.size) w (.agg vs) v := by
  obtain ⟨cs, rfl⟩ := hv
  obtain ⟨d, vs, h1, h2⟩ := hl
  refine ⟨d, vs, .agg h1.cr, .agg (f := fun j => cs.getD j undef) (by have := h2.1; simpa [Value.cells] using this) (fun j hj => ?_) (fun j hj => ?_)⟩
  · have : j < cs.size := by have := h2.1; simp [Value.cells] at this; omega
    simp [this]
  · obtain ⟨u, u1, u2⟩ := h2.2 j hj
    have : cs.getD j undef = u := by
      simp [Value.cells] at u1
      simp [u1]
    rw [this]
    exact u2
/-- An argument of one cell. -/
theorem arg_one {w : World} {T : Ty} {v : Value} (hl : Lies w T v.cells.toList) (hv : v.cells = #[v]) {c : I T → C} (hT : ∀ d : I T, explode T d = [c d]) : ∃ (d : I T) (x : V), ATR [] [] (.one (c d)) (.one x) ∧ Abs.AR [] (fun b => b < w.heap.size) w (.one x) v := by
  obtain ⟨d, vs, h1, h2⟩ := hl
  rw [hT d] at h1
  rw [hv] at h2
  have hlen := h2.1
  match vs, h1, h2, hlen with
  | [x], h1, h2, _ =>
    obtain ⟨u, u1, u2⟩ := h2.2 0 (by simp)
    simp at u1
    subst u1
    exact ⟨d, x, .one (.fl (h1.2 0 (by simp) (by simp))), .one u2⟩
theorem ars_nil {w : World} : Abs.ARs [] (fun b => b < w.heap.size) w [] #[] := ⟨rfl, fun j h => by simp at h⟩
theorem ars_cons {w : World} {av : AV} {avs : List AV} {v : Value} {vs : List Value} (h : Abs.AR [] (fun b => b < w.heap.size) w av v) (k : Abs.ARs [] (fun b => b < w.heap.size) w avs vs.toArray) : Abs.ARs [] (fun b => b < w.heap.size) w (av :: avs) (v :: vs).toArray := by
  refine ⟨by have := k.1; simpa using this, fun j hj => ?_⟩
  cases j with
  | zero => exact ⟨v, by simp, h⟩
  | succ j =>
    obtain ⟨c, c1, c2⟩ := k.2 j (by simpa using hj)
    exact ⟨c, by simpa using c1, c2⟩
end Go.Proofs.Ytjafncnjefnloaa.Den

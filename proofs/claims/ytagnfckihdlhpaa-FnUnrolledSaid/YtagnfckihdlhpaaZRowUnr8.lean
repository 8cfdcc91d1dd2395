/-
  Texts that the claim rests on, merged: PlacesI7, PlacesAny, PlacesS, Has, PlacesS2, PlacesS4, PlacesS7.
-/
import Derived.Test.YtagnfckihdlhpaaZRowUnr7

/-
  What the program's places computes at kind 7.
-/
namespace Go.Proofs.Ytagnfckihdlhpaa
open Go.RowKit

/-- What stands after t turns. -/
def turnV (n back : Nat) (a b : Nat → Bool) : Nat → Nat → Bool
  | 0, _ => false
  | t + 1, j => swF n a b (turnV n back a b t back) (n - 1 - j)
/-- What stands in the middle of a turn: the places from rem on are done. -/
def mixV (n back : Nat) (a b : Nat → Bool) (t rem k : Nat) : Bool := if k < rem then turnV n back a b t k else turnV n back a b (t + 1) k

theorem turn_step {n back : Nat} {a b : Nat → Bool} {t p : Nat} (hp : p < n) (hb : back < n) :
    turnV n back a b (t + 1) p = (b p || (a p && mixV n back a b t (p + 1) (nxt n back p))) := by
  by_cases h : p + 1 < n
  · have e1 : nxt n back p = p + 1 := by unfold nxt; rw [if_pos h]
    have e2 : n - 1 - p = (n - 1 - (p + 1)) + 1 := by omega
    rw [e1]
    unfold mixV
    rw [if_neg (by omega)]
    show swF n a b _ (n - 1 - p) = _
    rw [e2]
    show (b (n - 1 - (n - 1 - (p + 1) + 1)) || (a (n - 1 - (n - 1 - (p + 1) + 1)) && swF n a b _ (n - 1 - (p + 1)))) = _
    rw [show n - 1 - (n - 1 - (p + 1) + 1) = p by omega]
    rfl
  · have e1 : nxt n back p = back := by unfold nxt; rw [if_neg h]
    have e2 : n - 1 - p = 0 := by omega
    rw [e1]
    unfold mixV
    rw [if_pos (by omega)]
    show swF n a b _ (n - 1 - p) = _
    rw [e2]
    show (b (n - 1) || (a (n - 1) && turnV n back a b t back)) = _
    rw [show n - 1 = p by omega]

/-- The cells of a row in the middle of a turn. -/
def Mixed (cs : Array Value) (n : Nat) (f : Nat → Bool) : Prop := cs.size = n ∧ ∀ k, k < n → cs[k]? = some (.bool (f k))
theorem Mixed.congr {cs : Array Value} {n : Nat} {f g : Nat → Bool} (h : Mixed cs n f) (e : ∀ k, k < n → f k = g k) : Mixed cs n g := ⟨h.1, fun k hk => by rw [← e k hk]; exact h.2 k hk⟩
theorem Mixed.set {cs : Array Value} {n back : Nat} {a b : Nat → Bool} {t p : Nat} {x : Bool} (h : Mixed cs n (mixV n back a b t (p + 1))) (hp : p < n) (hx : turnV n back a b (t + 1) p = x) : Mixed (cs.setIfInBounds p (.bool x)) n (mixV n back a b t p) := by
  refine ⟨by simpa using h.1, fun k hk => ?_⟩
  by_cases e : k = p
  · subst e
    unfold mixV
    rw [if_neg (by omega), hx]
    simp [h.1, hp]
  · rw [Array.getElem?_setIfInBounds_ne (by omega), h.2 k hk]
    unfold mixV
    by_cases hk2 : k < p
    · rw [if_pos hk2, if_pos (by omega)]
    · rw [if_neg hk2, if_neg (by omega)]
theorem Mixed.all {cs : Array Value} {n : Nat} {f : Nat → Bool} {w : World} {O : Nat} {B : Nat} (h : Mixed cs n f) (hO : Blk w O 4 cs) (hB : B ≤ O) (hn : n ≤ 9223372036854775807) :
    At w (From B) (bools ((List.range n).map f)) (.slice (some ⟨O, 0, none⟩) n n) :=
  Filled.all ⟨h.1, h.2, fun k h1 h2 => by omega⟩ hO hB hn

set_option maxRecDepth 100000 in
set_option maxHeartbeats 4000000 in
theorem places_7 (xs : List Int) (back : Nat) (ls : List Int) (hl : LassoOK xs back ls) (q : Int) (kids : List Fm) (hk : kids.length = 2) (hkok : ∀ x ∈ kids, x.ok = true) (ih : ∀ x ∈ kids, PlacesF xs back ls x) (_hq0 : 0 ≤ q) (_hq7 : q ≤ 7) (w : World) (v s lv : Value)
    (h : At w Any (forms kids) v) (l : At w Any (ints xs) s) (m : At w Any (ints ls) lv) :
    Calls Try.prog 60 #[.agg #[.int .i64 7, .int .i64 q, v], .agg #[s, .int .i64 back], lv] w fun e w' => ∃ v', e = .returned v' ∧ At w' (From w.heap.size) (bools (holdL xs.length back (labAt xs ls) ⟨7, q, kids⟩)) v' ∧ Below w.heap.size w w' := by
  obtain ⟨A, c, rfl, hn, hc⟩ := forms_slice h
  obtain ⟨L, d, rfl, hnl, hcl⟩ := ints_slice l
  obtain ⟨M, e, rfl, hnm, hcm⟩ := ints_slice m
  have hB0 := (Blk.new w 38 #[.int .i64 7, .int .i64 q, .slice A kids.length c]).alloc (.cells #[.slice L xs.length d, .int .i64 back] 27)
  have hC0 := Blk.new (w.alloc (.cells #[.int .i64 7, .int .i64 q, .slice A kids.length c] 38)) 27 #[.slice L xs.length d, .int .i64 back]
  rw [World.size_alloc] at hC0
  have hks : kids.length ≤ 2 := by omega
  have hxl := hl.le
  have IH := Lib.hid ih
  have HK := Lib.hid hkok
  have HKL := Lib.hid hk
  clear ih hkok hk
  go_enter Try.func60, Try.ntmps60
  go_wp2_with fail
  go_loopw [7, 20] (fun kv t wr => ∃ j : Nat, j ≤ kids.length ∧ t = .int .i64 j ∧ KidRow wr (w.heap.size + 1 + 1) kv j (kids.map (holdL xs.length back (labAt xs ls))) ∧ w.heap.size + 1 + 1 ≤ wr.heap.size ∧
      Blk wr w.heap.size 38 #[.int .i64 7, .int .i64 q, .slice A kids.length c] ∧ Blk wr (w.heap.size + 1) 27 #[.slice L xs.length d, .int .i64 back] ∧ Below w.heap.size w wr) (fun _ t _ => kids.length - (intOf t).toNat)
  case atStart =>
    refine ⟨0, Nat.zero_le _, rfl, KidRow.none_ _ (Nat.le_refl _) ?_ rfl, by simp, hB0.alloc _, hC0.alloc _, by repeat (first | with_reducible exact Below.refl _ _ | with_reducible refine Below.setCell ?_ (by first | omega | (simp <;> omega)) _ | with_reducible refine Below.drew ?_ | with_reducible refine below_drewN ?_ _ | with_reducible refine Below.alloc ?_ (by first | omega | (simp <;> omega)) _ | with_reducible refine Below.trans ?_ (Below.mono (by assumption) (by first | omega | (simp <;> omega))))⟩
    have := Blk.new ((w.alloc (.cells #[.int .i64 7, .int .i64 q, .slice A kids.length c] 38)).alloc (.cells #[.slice L xs.length d, .int .i64 back] 27)) 89 #[]
    rwa [World.size_alloc, World.size_alloc] at this
  case round =>
    obtain ⟨j, hj, rfl, hkr, hsz, hB, hC, hb⟩ := hrel
    obtain ⟨kv, rfl⟩ : ∃ kv : Value, kv = u7 := ⟨_, rfl⟩
    have HKR := Lib.hid hkr
    clear hkr
    by_cases hlt : j < kids.length
    · obtain ⟨b, off, f, u, rfl, _, hlb, hc1, hc2, hc3, hu, HX, _⟩ := forms_get (h.below hb) hlt
      obtain ⟨Au, cu, rfl, hnu, hcu⟩ := forms_slice hu
      have hmem := List.mem_of_getElem? HX.out
      obtain ⟨q4, q5⟩ := hC.c2
      have hC1 := hC.alloc (.cells #[.int .i64 f.kind, .int .i64 f.prop, .slice Au f.kids.length cu] 38)
      have l1 := (l.below hb).alloc (.cells #[.int .i64 f.kind, .int .i64 f.prop, .slice Au f.kids.length cu] 38)
      have m1 := (m.below hb).alloc (.cells #[.int .i64 f.kind, .int .i64 f.prop, .slice Au f.kids.length cu] 38)
      have hu1 := hu.alloc (.cells #[.int .i64 f.kind, .int .i64 f.prop, .slice Au f.kids.length cu] 38)
      have HKR1 := Lib.hid (HKR.out.below ((Below.refl wr.heap.size wr).alloc (Nat.le_refl _) (.cells #[.int .i64 f.kind, .int .i64 f.prop, .slice Au f.kids.length cu] 38)))
      obtain ⟨_, _⟩ := hC1.c2
      go_wp2_with fail
      refine (IH.out f hmem _ _ _ _ hu1 l1 m1 (HK.out f hmem)).mono ?_
      rintro e w1 ⟨v', rfl, ha, hb1⟩
      obtain ⟨A', c', rfl, hn', hc'⟩ := bools_slice ha
      have z1 := hb1.size
      simp at z1
      have hBs : KidRow (w1.alloc (.cells #[.slice A' (holdL xs.length back (labAt xs ls) f).length c'] 89)) (w.heap.size + 1 + 1) kv j (kids.map (holdL xs.length back (labAt xs ls))) := (HKR1.out.below hb1).below ((Below.refl _ _).alloc (Nat.le_refl _) _)
      obtain ⟨vs, hown, hvl, hvs⟩ := hBs
      have HOW := Lib.hid hown
      have hnews := World.news_of_block (heap_alloc_new w1 (.cells #[.slice A' (holdL xs.length back (labAt xs ls) f).length c'] 89))
      have HNW := Lib.hid hnews
      have HVS := Lib.hid hvs
      obtain ⟨i0, hi, hz0, hz1, hz2⟩ := info_parts Try.infoBools
      clear hown hnews hvs
      go_wp2_with (at_builtin; refine wpList_append_lies _ rfl _ _ _ rfl (w.heap.size + 1 + 1) 89 i0 (.slice none 0 0) 1 24 Try.underlying107 hi hz0 hz1 hz2 rfl (by omega) kv j vs rfl HOW.out ⟨w1.heap.size, 0, none⟩ 1 1 [.slice A' (holdL xs.length back (labAt xs ls) f).length c'] rfl rfl HNW.out (by simp [Value.oneCell']) (by omega) (by unfold maxLen; omega) (by omega) (by simp; omega) (w1.heap.size + 1) (World.size_alloc _ _) ?_; intro g cap w3 hown3 hgrow3 hat3 hlt3)
      go_wp2_with fail
      go_roundw
      case rel =>
        obtain ⟨r1, r2, r3⟩ := HKR1.out.round (by simp; omega) hb1 ha (by simp [HX.out]) vs HOW.out hown3 hgrow3 hat3
        have z3 := r2.size
        simp at z3
        exact ⟨j + 1, by omega, by go_num, r1, by omega, r3 _ _ _ (by omega) (hB.alloc _), r3 _ _ _ (by omega) hC1, by repeat (first | with_reducible exact Below.refl _ _ | with_reducible refine Below.setCell ?_ (by first | omega | (simp <;> omega)) _ | with_reducible refine Below.drew ?_ | with_reducible refine below_drewN ?_ _ | with_reducible refine Below.alloc ?_ (by first | omega | (simp <;> omega)) _ | with_reducible refine Below.trans ?_ (Below.mono (by assumption) (by first | omega | (simp <;> omega))))⟩
      case measure => simp [intOf]; omega
    · have hjk : j = kids.length := by omega
      subst hjk
      have hmk := run_make_row' (P := Try.prog) 89 4 _ 1 Try.underlying89 Try.infoBool rfl .i64 .i64 xs.length (by omega) (by omega)
      have hbo : Below wr.heap.size wr ((wr.alloc (.cells #[.int .i64 xs.length] 3)).alloc (.cells (madeCells #[.bool false] xs.length) 4)) := by repeat (first | with_reducible exact Below.refl _ _ | with_reducible refine Below.setCell ?_ (by first | omega | (simp <;> omega)) _ | with_reducible refine Below.drew ?_ | with_reducible refine below_drewN ?_ _ | with_reducible refine Below.alloc ?_ (by first | omega | (simp <;> omega)) _ | with_reducible refine Below.trans ?_ (Below.mono (by assumption) (by first | omega | (simp <;> omega))))
      have hB2 := hB.next hbo
      have hC2 := hC.next hbo
      obtain ⟨q1, q2, q3⟩ := hB2.c3
      obtain ⟨q4, q5⟩ := hC2.c2
      obtain ⟨q6, q7⟩ := hC.c2
      have hlr := l.below hb
      have hmr := m.below hb
      have hN0 := (Blk.new wr 3 #[.int .i64 xs.length]).alloc (.cells (madeCells #[.bool false] xs.length) 4)
      have hO0 := Blk.new (wr.alloc (.cells #[.int .i64 xs.length] 3)) 4 (madeCells #[.bool false] xs.length)
      rw [World.size_alloc] at hO0
      have HO0 := Lib.hid hO0
      have HN0 := Lib.hid hN0
      have hpos := hl.pos
      have hbk := hl.back
      clear hO0 hN0 hC0 hB0 hlt hj
      obtain ⟨wo, rfl⟩ : ∃ wo : World, wo = wr := ⟨_, rfl⟩
      go_wp2_with fail
      go_loopw [41] (fun t w2 => ∃ (i : Nat) (cs : Array Value), i ≤ xs.length ∧ t = .int .i64 i ∧ Blk w2 (wo.heap.size + 1) 4 cs ∧ Filled cs xs.length i (fun k => false) ∧ Blk w2 wo.heap.size 3 #[.int .i64 xs.length] ∧ Below wo.heap.size wo w2) (fun t _ => xs.length - (intOf t).toNat)
      case atStart => exact ⟨0, _, Nat.zero_le _, rfl, HO0.out, Filled.start _ _, HN0.out, hbo⟩
      case round =>
        obtain ⟨i, cs, hi, rfl, hO, hfl, hN, hb2⟩ := hrel
        have HO := Lib.hid hO
        have HFL := Lib.hid hfl
        obtain ⟨p1, p2, p3⟩ := (hB.next hb2).c3
        obtain ⟨p4, p5⟩ := (hC.next hb2).c2
        clear hO hfl
        by_cases hlt : i < xs.length
        · obtain ⟨bl, ol, x, rfl, _, hll, cx, HX, _⟩ := ints_get (hlr.below hb2) hlt
          obtain ⟨u, hu⟩ := HFL.out.at_ hlt
          have cu : wr.cell? ⟨wo.heap.size + 1, i, none⟩ = some u := (HO.out.cell i).trans hu
          have fu := HO.out.frozen i
          clear hu
          go_wp2_with fail
          go_roundw
          case rel => exact ⟨i + 1, cs, by omega, by go_num, HO.out, HFL.out.skip hlt, hN, hb2⟩
          case measure => simp [intOf]; omega
        · have hin : i = xs.length := by omega
          subst hin
          go_wp2_with fail
          obtain ⟨w5, rfl⟩ : ∃ w5 : World, w5 = wr := ⟨_, rfl⟩
          have hM0 : Mixed cs xs.length (turnV xs.length back (kidH xs back ls kids 0) (kidH xs back ls kids 1) 0) := ⟨HFL.out.1, HFL.out.2.1⟩
          have HM0 := Lib.hid hM0
          clear hM0 p1 p2 p3 p4 p5
          go_loopw [134] (fun tv w2 => ∃ (t : Nat) (cs : Array Value), t ≤ 2 ∧ tv = .int .i64 t ∧ Blk w2 (wo.heap.size + 1) 4 cs ∧ Mixed cs xs.length (turnV xs.length back (kidH xs back ls kids 0) (kidH xs back ls kids 1) t) ∧ Blk w2 wo.heap.size 3 #[.int .i64 xs.length] ∧ Below wo.heap.size wo w2) (fun tv _ => 2 - (intOf tv).toNat)
          case atStart => exact ⟨0, cs, by omega, rfl, HO.out, HM0.out, hN, hb2⟩
          case round =>
            obtain ⟨t, cs2, ht, rfl, hO2, hM2, hN2, hb3⟩ := hrel
            have HO2 := Lib.hid hO2
            have HM2 := Lib.hid hM2
            clear hO2 hM2 HM0 HO HFL
            obtain ⟨w6, rfl⟩ : ∃ w6 : World, w6 = wr := ⟨_, rfl⟩
            by_cases htl : t < 2
            · have hn1 := hN2.c1
              have htd : decide ((t : Int) < 2) = true := by simp; omega
              go_wp2_with fail
              go_loopw [15] (fun iv w2 => ∃ (rem : Nat) (z : Int) (cs : Array Value), rem ≤ xs.length ∧ iv = .int .i64 z ∧ z = rem - 1 ∧ Blk w2 (wo.heap.size + 1) 4 cs ∧ Mixed cs xs.length (mixV xs.length back (kidH xs back ls kids 0) (kidH xs back ls kids 1) t rem) ∧ Blk w2 wo.heap.size 3 #[.int .i64 xs.length] ∧ Below wo.heap.size wo w2) (fun iv _ => ((intOf iv) + 1).toNat)
              case atStart => exact ⟨xs.length, _, cs2, Nat.le_refl _, rfl, rfl, HO2.out, HM2.out.congr (fun k hk => by unfold mixV; rw [if_pos hk]), hN2, hb3⟩
              case round =>
                obtain ⟨rem, z, cs3, hrm, rfl, hz, hO3, hM3, hN3, hb4⟩ := hrel
                have HO3 := Lib.hid hO3
                have HM3 := Lib.hid hM3
                obtain ⟨p4, p5⟩ := (hC.next hb4).c2
                have hn3 := hN3.c1
                clear hO3 hM3
                rcases Nat.eq_zero_or_pos rem with rfl | hrp
                · obtain rfl : z = -1 := by omega
                  clear hz
                  go_wp2_with fail
                  go_roundw
                  case rel => exact ⟨t + 1, cs3, by omega, by go_num, HO3.out, HM3.out.congr (fun k hk => by unfold mixV; rw [if_neg (by omega)]), hN3, hb4⟩
                  case measure => simp [intOf]; omega
                · obtain ⟨p, rfl⟩ : ∃ p, rem = p + 1 := ⟨rem - 1, by omega⟩
                  obtain rfl : z = (p : Int) := by omega
                  have hpn : p < xs.length := by omega
                  have hj1 : 0 < kids.length := by rw [HKL.out]; omega
                  have hj2 : 1 < kids.length := by rw [HKL.out]; omega
                  obtain ⟨g, cap, b0, o0, c0, rfl, hg, hb0, k1, hc0, k2⟩ := HKR.out.cell hb4 hj1 hpn
                  obtain ⟨g', cap', b1, o1, c1, eg, hg', hb1, k3, hc1, k4⟩ := HKR.out.cell hb4 hj2 hpn
                  injection eg with eg1 eg2 eg3
                  injection eg1 with eg1
                  injection eg1 with eg1
                  subst eg1 eg3
                  have hnx := nxt_lt (i := p) hbk
                  have HTS := Lib.hid (turn_step (a := kidH xs back ls kids 0) (b := kidH xs back ls kids 1) (t := t) hpn hbk)
                  have cn := (HO3.out.cell (nxt xs.length back p)).trans (HM3.out.2 _ hnx)
                  obtain ⟨u, hu⟩ : ∃ u, wr.cell? ⟨wo.heap.size + 1, p, none⟩ = some u := ⟨_, (HO3.out.cell p).trans (HM3.out.2 _ hpn)⟩
                  have fu := HO3.out.frozen p
                  have HNX : Hid (∀ W : World, W.cell? ⟨wo.heap.size, 0, none⟩ = some (.int .i64 xs.length) → W.cell? ⟨w.heap.size + 1, 1, none⟩ = some (.int .i64 back) → Calls Try.prog 76 #[.int .i64 p, .pointer (some ⟨wo.heap.size, 0, none⟩), .pointer (some ⟨w.heap.size + 1, 0, none⟩)] W fun e w' => e = .returned (.int .i64 (nxt xs.length back p : Nat)) ∧ W = w') := fun W => next_any xs.length back p (by omega) hpn _ _ W
                  generalize nxt xs.length back p = np at *
                  obtain ⟨x0, hx0⟩ : ∃ x0, x0 = kidH xs back ls kids 0 p := ⟨_, rfl⟩
                  obtain ⟨x1, hx1⟩ : ∃ x1, x1 = kidH xs back ls kids 1 p := ⟨_, rfl⟩
                  rw [← hx0] at k2
                  rw [← hx1] at k4
                  have HTS2 := HTS.out
                  rw [← hx0, ← hx1] at HTS2
                  have HT2 := Lib.hid HTS2
                  clear hx0 hx1 eg2 hz HTS2 HTS
                  cases x1
                  · cases x0
                    · go_wp2_with fail
                      go_roundw
                      case rel => exact ⟨p, _, _, by omega, rfl, by omega, HO3.out.set_ _ _, HM3.out.set hpn (by rw [HT2.out]; simp), hN3.far (by simp) _, by repeat (first | with_reducible exact Below.refl _ _ | with_reducible refine Below.setCell ?_ (by first | omega | (simp <;> omega)) _ | with_reducible refine Below.drew ?_ | with_reducible refine below_drewN ?_ _ | with_reducible refine Below.alloc ?_ (by first | omega | (simp <;> omega)) _ | with_reducible refine Below.trans ?_ (Below.mono (by assumption) (by first | omega | (simp <;> omega))))⟩
                      case measure => simp [intOf]
                    · go_wp2_with fail
                      refine (HNX.out _ hn3 p5).mono ?_
                      rintro e w7 ⟨rfl, rfl⟩
                      go_wp2_with fail
                      go_roundw
                      case rel => exact ⟨p, _, _, by omega, rfl, by omega, HO3.out.set_ _ _, HM3.out.set hpn (by rw [HT2.out]; simp), hN3.far (by simp) _, by repeat (first | with_reducible exact Below.refl _ _ | with_reducible refine Below.setCell ?_ (by first | omega | (simp <;> omega)) _ | with_reducible refine Below.drew ?_ | with_reducible refine below_drewN ?_ _ | with_reducible refine Below.alloc ?_ (by first | omega | (simp <;> omega)) _ | with_reducible refine Below.trans ?_ (Below.mono (by assumption) (by first | omega | (simp <;> omega))))⟩
                      case measure => simp [intOf]
                  · go_wp2_with fail
                    go_roundw
                    case rel => exact ⟨p, _, _, by omega, rfl, by omega, HO3.out.set_ _ _, HM3.out.set hpn (by rw [HT2.out]; simp), hN3.far (by simp) _, by repeat (first | with_reducible exact Below.refl _ _ | with_reducible refine Below.setCell ?_ (by first | omega | (simp <;> omega)) _ | with_reducible refine Below.drew ?_ | with_reducible refine below_drewN ?_ _ | with_reducible refine Below.alloc ?_ (by first | omega | (simp <;> omega)) _ | with_reducible refine Below.trans ?_ (Below.mono (by assumption) (by first | omega | (simp <;> omega))))⟩
                    case measure => simp [intOf]
            · obtain rfl : t = 2 := by omega
              go_wp2_with fail
              go_ret
              refine ⟨_, rfl, ?_, ?_⟩
              · have e : holdL xs.length back (labAt xs ls) ⟨7, q, kids⟩ = (List.range xs.length).map (turnV xs.length back (kidH xs back ls kids 0) (kidH xs back ls kids 1) 2) := by
                  unfold holdL
                  rw [Fm.hold_eq]
                  refine List.map_congr_left fun k hk => ?_
                  exact (until_eq xs.length back (kidH xs back ls kids 0) (kidH xs back ls kids 1) hbk k (by simpa using hk)).symm
                rw [e]
                exact HM2.out.all HO2.out (by omega) (by omega)
              · repeat (first | with_reducible exact Below.refl _ _ | with_reducible refine Below.setCell ?_ (by first | omega | (simp <;> omega)) _ | with_reducible refine Below.drew ?_ | with_reducible refine below_drewN ?_ _ | with_reducible refine Below.alloc ?_ (by first | omega | (simp <;> omega)) _ | with_reducible refine Below.trans ?_ (Below.mono (by assumption) (by first | omega | (simp <;> omega))))

end Go.Proofs.Ytagnfckihdlhpaa

/-
  What the program's places computes.
-/
namespace Go.Proofs.Ytagnfckihdlhpaa
open Go.RowKit

theorem ok_parts {k q : Int} {kids : List Fm} (h : Fm.ok ⟨k, q, kids⟩ = true) : okHead k q kids.length ∧ ∀ x ∈ kids, x.ok = true := by
  rw [Fm.ok_eq, Bool.and_eq_true, decide_eq_true_eq] at h
  exact ⟨h.1, List.all_eq_true.1 h.2⟩

theorem places_any (xs : List Int) (back : Nat) (ls : List Int) (hl : LassoOK xs back ls) (f : Fm) : PlacesF xs back ls f := by
  induction f using Fm.induct with
  | h k q kids ih =>
    intro w v s lv h l m hok
    obtain ⟨⟨ha, q0, q7, _⟩, hkok⟩ := ok_parts hok
    have hk : 1 ≤ k ∧ k ≤ 7 := by unfold arity at ha; omega
    rcases kinds hk.1 hk.2 with rfl | rfl | rfl | rfl | rfl | rfl | rfl
    · exact places_1 xs back ls hl q kids (by have : arity 1 = 0 := rfl; omega) hkok ih q0 q7 w v s lv h l m
    · exact places_2 xs back ls hl q kids (by have : arity 2 = 0 := rfl; omega) hkok ih q0 q7 w v s lv h l m
    · exact places_3 xs back ls hl q kids (by have : arity 3 = 1 := rfl; omega) hkok ih q0 q7 w v s lv h l m
    · exact places_4 xs back ls hl q kids (by have : arity 4 = 2 := rfl; omega) hkok ih q0 q7 w v s lv h l m
    · exact places_5 xs back ls hl q kids (by have : arity 5 = 2 := rfl; omega) hkok ih q0 q7 w v s lv h l m
    · exact places_6 xs back ls hl q kids (by have : arity 6 = 1 := rfl; omega) hkok ih q0 q7 w v s lv h l m
    · exact places_7 xs back ls hl q kids (by have : arity 7 = 2 := rfl; omega) hkok ih q0 q7 w v s lv h l m

end Go.Proofs.Ytagnfckihdlhpaa

/-
  What the reference's l31Places computes: the first loop, and kind 1.
-/
namespace Go.Proofs.Ytagnfckihdlhpaa
open Go.RowKit

def PlacesG (xs : List Int) (back : Nat) (ls : List Int) (f : Fm) : Prop := ∀ (w : World) (v s lv : Value), At w Any (forms f.kids) v → At w Any (ints xs) s → At w Any (ints ls) lv → f.ok = true →
    Calls Try.prog 62 #[.agg #[.int .i64 f.kind, .int .i64 f.prop, v], .agg #[s, .int .i64 back], lv] w fun e w' => ∃ v', e = .returned v' ∧ At w' (From w.heap.size) (bools (holdL xs.length back (labAt xs ls) f)) v' ∧ Below w.heap.size w w'

theorem gb_set {a w : World} {g : Nat} (h : a.grownBy w (some g)) (i : Nat) (u : Value) : a.grownBy (w.setCell ⟨g, i, none⟩ u) (some g) :=
  ⟨h.os, h.tape, h.output, by simpa [World.setCell] using h.size, fun k hk hne => (Below.heap_setCell w ⟨g, i, none⟩ u k (fun e => hne (by rw [e]))).trans (h.block k hk hne)⟩
theorem gb_drew {a w : World} {row : Option Nat} (h : a.grownBy w row) : a.grownBy w.drew row := ⟨h.os, h.tape, h.output, h.size, h.block⟩
theorem gb_below {a w w' : World} {row : Option Nat} (h : a.grownBy w row) (hb : Below w.heap.size w w') : a.grownBy w' row :=
  ⟨hb.os.trans h.os, hb.tape.trans h.tape, hb.output.trans h.output, Nat.le_trans h.size hb.size, fun k hk hne => (hb.block k (Nat.lt_of_lt_of_le hk h.size)).trans (h.block k hk hne)⟩

theorem KidRow.cellS {w w2 : World} {B : Nat} {kv : Value} {j : Nat} {xs : List Int} {back : Nat} {ls : List Int} {kids : List Fm} (h : KidRow w B kv j (kids.map (holdL xs.length back (labAt xs ls)))) (hb : ∀ x, B ≤ x → x < w.heap.size → w2.heap[x]? = w.heap[x]?) {t k : Nat} (ht : t < j) (hk : k < xs.length) :
    ∃ g cap b off c, kv = .slice (some ⟨g, 0, none⟩) j cap ∧ B ≤ g ∧ g < w.heap.size ∧ B ≤ b ∧ b < w.heap.size ∧ w2.cell? ⟨g, t, none⟩ = some (.slice (some ⟨b, off, none⟩) xs.length c) ∧ xs.length ≤ c ∧ w2.cell? ⟨b, off + k, none⟩ = some (.bool (kidH xs back ls kids t k)) := by
  obtain ⟨g, cap, bs, v, e, _, hBg, hg, hbs, hc, ha⟩ := h.get ht
  have ek : ∃ f, kids[t]? = some f ∧ bs = holdL xs.length back (labAt xs ls) f := by
    rw [List.getElem?_map] at hbs
    cases hf : kids[t]? with
    | none => simp [hf] at hbs
    | some f => simp [hf] at hbs; exact ⟨f, rfl, hbs.symm⟩
  obtain ⟨f, hf, rfl⟩ := ek
  obtain ⟨Av, cv, rfl, hcv, _⟩ := bools_slice ha
  rw [holdL_len] at hcv
  obtain ⟨b, off, x, rfl, hS, hlb, hx, HX⟩ := bools_get ha (k := k) (by rw [holdL_len]; exact hk)
  have ex := holdL_at HX.out
  have ekid : kidH xs back ls kids t k = x := by unfold kidH; simp [List.getD, hf, ex]
  refine ⟨g, cap, b, off, cv, e, hBg, hg, hS.1, hlb, ?_, hcv, ?_⟩
  · rw [World.cell?_of_block (w := w) (a := ⟨g, t, none⟩) (hb g hBg hg), hc, holdL_len]
  · rw [World.cell?_of_block (w := w) (a := ⟨b, off + k, none⟩) (hb b hS.1 hlb), hx, ekid]

set_option maxRecDepth 100000 in
set_option maxHeartbeats 4000000 in
theorem l31Places_1 (xs : List Int) (back : Nat) (ls : List Int) (hl : LassoOK xs back ls) (q : Int) (kids : List Fm) (hk : kids.length = 0) (hkok : ∀ x ∈ kids, x.ok = true) (ih : ∀ x ∈ kids, PlacesG xs back ls x) (_hq0 : 0 ≤ q) (_hq7 : q ≤ 7) (w : World) (v s lv : Value)
    (h : At w Any (forms kids) v) (l : At w Any (ints xs) s) (m : At w Any (ints ls) lv) :
    Calls Try.prog 62 #[.agg #[.int .i64 1, .int .i64 q, v], .agg #[s, .int .i64 back], lv] w fun e w' => ∃ v', e = .returned v' ∧ At w' (From w.heap.size) (bools (holdL xs.length back (labAt xs ls) ⟨1, q, kids⟩)) v' ∧ Below w.heap.size w w' := by
  obtain ⟨A, c, rfl, hn, hc⟩ := forms_slice h
  obtain ⟨L, d, rfl, hnl, hcl⟩ := ints_slice l
  obtain ⟨M, e, rfl, hnm, hcm⟩ := ints_slice m
  have hB0 := (Blk.new w 38 #[.int .i64 1, .int .i64 q, .slice A kids.length c]).alloc (.cells #[.slice L xs.length d, .int .i64 back] 27)
  have hC0 := Blk.new (w.alloc (.cells #[.int .i64 1, .int .i64 q, .slice A kids.length c] 38)) 27 #[.slice L xs.length d, .int .i64 back]
  rw [World.size_alloc] at hC0
  have hO0 := Blk.new ((w.alloc (.cells #[.int .i64 1, .int .i64 q, .slice A kids.length c] 38)).alloc (.cells #[.slice L xs.length d, .int .i64 back] 27)) 4 (madeCells #[.bool false] xs.length)
  rw [World.size_alloc, World.size_alloc] at hO0
  have hks : kids.length ≤ 2 := by omega
  have hxl := hl.le
  have hmk := run_make_row' (P := Try.prog) 89 4 _ 1 Try.underlying89 Try.infoBool rfl .i64 .i64 xs.length (by omega) (by omega)
  have IH := Lib.hid ih
  have HK := Lib.hid hkok
  have HKL := Lib.hid hk
  have HO0 := Lib.hid hO0
  clear ih hkok hk hO0
  go_enter Try.func62, Try.ntmps62
  go_wp2_with fail
  go_loopw [9, 10] (fun kv t wr => ∃ j : Nat, j ≤ kids.length ∧ t = .int .i64 j ∧ KidRow wr (w.heap.size + 1 + 1 + 1) kv j (kids.map (holdL xs.length back (labAt xs ls))) ∧ w.heap.size + 1 + 1 + 1 ≤ wr.heap.size ∧
      Blk wr w.heap.size 38 #[.int .i64 1, .int .i64 q, .slice A kids.length c] ∧ Blk wr (w.heap.size + 1) 27 #[.slice L xs.length d, .int .i64 back] ∧ Blk wr (w.heap.size + 1 + 1) 4 (madeCells #[.bool false] xs.length) ∧ Below w.heap.size w wr) (fun _ t _ => kids.length - (intOf t).toNat)
  case atStart =>
    refine ⟨0, Nat.zero_le _, rfl, KidRow.none_ _ (Nat.le_refl _) ?_ rfl, by simp, (hB0.alloc _).alloc _, (hC0.alloc _).alloc _, HO0.out.alloc _, by repeat (first | with_reducible exact Below.refl _ _ | with_reducible refine Below.setCell ?_ (by first | omega | (simp <;> omega)) _ | with_reducible refine Below.drew ?_ | with_reducible refine below_drewN ?_ _ | with_reducible refine Below.alloc ?_ (by first | omega | (simp <;> omega)) _ | with_reducible refine Below.trans ?_ (Below.mono (by assumption) (by first | omega | (simp <;> omega))))⟩
    have := Blk.new (((w.alloc (.cells #[.int .i64 1, .int .i64 q, .slice A kids.length c] 38)).alloc (.cells #[.slice L xs.length d, .int .i64 back] 27)).alloc (.cells (madeCells #[.bool false] xs.length) 4)) 89 #[]
    rwa [World.size_alloc, World.size_alloc, World.size_alloc] at this
  case round =>
    obtain ⟨j, hj, rfl, hkr, hsz, hB, hC, hOO, hb⟩ := hrel
    obtain ⟨kv, rfl⟩ : ∃ kv : Value, kv = u9 := ⟨_, rfl⟩
    have HKR := Lib.hid hkr
    have HOO := Lib.hid hOO
    clear hkr hmk HO0 hOO hB0 hC0
    by_cases hlt : j < kids.length
    · obtain ⟨b, off, f, u, rfl, _, hlb, kc1, kc2, kc3, hu, HX, _⟩ := forms_get h hlt
      obtain ⟨Au, cu, rfl, hnu, hcu⟩ := forms_slice hu
      have hmem := List.mem_of_getElem? HX.out
      have hc1 := (hb.cell (p := ⟨b, off + j * 3, none⟩) hlb).trans kc1
      have hc2 := (hb.cell (p := ⟨b, off + j * 3 + 1, none⟩) hlb).trans kc2
      have hc3 := (hb.cell (p := ⟨b, off + j * 3 + 2, none⟩) hlb).trans kc3
      obtain ⟨q1, q2, q3⟩ := hB.c3
      obtain ⟨q4, q5⟩ := hC.c2
      have hu1 := (hu.below hb).drew
      have l1 := (l.below hb).drew
      have m1 := (m.below hb).drew
      have hij : (j : Int) < (kids.length : Int) := by omega
      obtain ⟨i0, hi, hz0, hz1, hz2⟩ := info_parts Try.infoBools
      go_wp2_with fail
      go_region_held3 (fun w' => w'.cell? ⟨w.heap.size, 2, none⟩ = some (.slice (some ⟨b, off, none⟩) kids.length c) ∧ w'.cell? ⟨w.heap.size + 1, 0, none⟩ = some (.slice L xs.length d) ∧ w'.cell? ⟨w.heap.size + 1, 1, none⟩ = some (.int .i64 back) ∧ w'.cell? ⟨b, off + j * 3, none⟩ = some (.int .i64 f.kind) ∧ w'.cell? ⟨b, off + j * 3 + 1, none⟩ = some (.int .i64 f.prop) ∧ w'.cell? ⟨b, off + j * 3 + 2, none⟩ = some (.slice Au f.kids.length cu)) (go_keep)
        (first | (go_at_call 62; refine (IH.out f hmem _ _ _ _ ?_ ?_ ?_ (HK.out f hmem)).mono ?_; (exact hu1); (exact l1); (exact m1); rintro e w1 ⟨v', rfl, ha, hb1⟩; obtain ⟨A', c', rfl, hn', hc'⟩ := bools_slice ha; have z1 := hb1.size; simp at z1; obtain ⟨b1, b2⟩ := bcell hb1; have y1 := ((hB.drew.next hb1).alloc (.cells #[.slice A' (holdL xs.length back (labAt xs ls) f).length c'] 89)).c3; have y2 := ((hC.drew.next hb1).alloc (.cells #[.slice A' (holdL xs.length back (labAt xs ls) f).length c'] 89)).c2; obtain ⟨y11, y12, y13⟩ := y1; obtain ⟨y21, y22⟩ := y2; obtain ⟨y31, y32, y33⟩ := (hB.drew.next hb1).c3; obtain ⟨y41, y42⟩ := (hC.drew.next hb1).c2; have x1 := (hb1.cell (p := ⟨b, off + j * 3, none⟩) (by simp; omega)).trans hc1; have x2 := (hb1.cell (p := ⟨b, off + j * 3 + 1, none⟩) (by simp; omega)).trans hc2; have x3 := (hb1.cell (p := ⟨b, off + j * 3 + 2, none⟩) (by simp; omega)).trans hc3; clear b1 b2; have xa1 := (World.cell?_alloc_lt w1 (.cells #[.slice A' (holdL xs.length back (labAt xs ls) f).length c'] 89) ⟨b, off + j * 3, none⟩ (by show b < w1.heap.size; omega)).trans x1; have xa2 := (World.cell?_alloc_lt w1 (.cells #[.slice A' (holdL xs.length back (labAt xs ls) f).length c'] 89) ⟨b, off + j * 3 + 1, none⟩ (by show b < w1.heap.size; omega)).trans x2; have xa3 := (World.cell?_alloc_lt w1 (.cells #[.slice A' (holdL xs.length back (labAt xs ls) f).length c'] 89) ⟨b, off + j * 3 + 2, none⟩ (by show b < w1.heap.size; omega)).trans x3; have HKR1 := Lib.hid (((HKR.out.below ((Below.refl _ _).drew)).below hb1).below ((Below.refl w1.heap.size w1).alloc (Nat.le_refl _) (.cells #[.slice A' (holdL xs.length back (labAt xs ls) f).length c'] 89))); obtain ⟨vs, hown, hvl, hvs⟩ := HKR1.out; have HOW := Lib.hid hown; have HNW := Lib.hid (World.news_of_block (heap_alloc_new w1 (.cells #[.slice A' (holdL xs.length back (labAt xs ls) f).length c'] 89))); clear hown hvs) | (refine step_append_lies _ (by rfl) _ _ _ (by rfl) (w.heap.size + 1 + 1 + 1) 89 i0 (.slice none 0 0) 1 24 Try.underlying107 hi hz0 hz1 hz2 rfl (by omega) kv j vs (by rfl) HOW.out ⟨w1.heap.size, 0, none⟩ 1 1 [.slice A' (holdL xs.length back (labAt xs ls) f).length c'] (by rfl) rfl HNW.out (by simp [Value.oneCell']) (by omega) (by unfold maxLen; omega) (by omega) (by simp; omega) (w1.heap.size + 1) (World.size_alloc _ _) ?_; intro g cap w3 hown3 hgrow3 hat3 hlt3; have HR := Lib.hid ((HKR.out.below ((Below.refl _ _).drew)).round (by show _ ≤ wr.heap.size; omega) hb1 ha (by simp [HX.out]) vs HOW.out hown3 hgrow3 hat3); obtain ⟨y51, y52, y53⟩ := (HR.out.2.2 _ _ _ (by omega) hB.drew).c3; obtain ⟨y61, y62⟩ := (HR.out.2.2 _ _ _ (by omega) hC.drew).c2; have x1 := (HR.out.2.1.cell (p := ⟨b, off + j * 3, none⟩) (by show b < _; omega)).trans hc1; have x2 := (HR.out.2.1.cell (p := ⟨b, off + j * 3 + 1, none⟩) (by show b < _; omega)).trans hc2; have x3 := (HR.out.2.1.cell (p := ⟨b, off + j * 3 + 2, none⟩) (by show b < _; omega)).trans hc3))
      go_wp2_with fail
      go_roundw
      case rel =>
        obtain ⟨r1, r2, r3⟩ := HR.out
        have z3 := r2.size
        simp at z3
        exact ⟨j + 1, by omega, by go_num, r1, by omega, r3 _ _ _ (by omega) hB.drew, r3 _ _ _ (by omega) hC.drew, r3 _ _ _ (by omega) HOO.out.drew, by repeat (first | with_reducible exact Below.refl _ _ | with_reducible refine Below.setCell ?_ (by first | omega | (simp <;> omega)) _ | with_reducible refine Below.drew ?_ | with_reducible refine below_drewN ?_ _ | with_reducible refine Below.alloc ?_ (by first | omega | (simp <;> omega)) _ | with_reducible refine Below.trans ?_ (Below.mono (by assumption) (by first | omega | (simp <;> omega))))⟩
      case measure => simp [intOf]; omega
    · have hjk : j = kids.length := by omega
      subst hjk
      obtain ⟨wo, rfl⟩ : ∃ wo : World, wo = wr := ⟨_, rfl⟩
      obtain ⟨q1, q2, q3⟩ := hB.c3
      have hpos := hl.pos
      have hbk := hl.back
      clear hlt hj
      go_wp2_with fail
      go_loopw [11] (fun t w2 => ∃ (i : Nat) (cs : Array Value), i ≤ xs.length ∧ t = .int .i64 i ∧ Blk w2 (w.heap.size + 1 + 1) 4 cs ∧ Filled cs xs.length i (fun k => true) ∧ wo.grownBy w2 (some (w.heap.size + 1 + 1)) ∧ Below w.heap.size w w2) (fun t _ => xs.length - (intOf t).toNat)
      case atStart => exact ⟨0, _, Nat.zero_le _, rfl, HOO.out, Filled.start _ _, World.grownBy.refl _ _, hb⟩
      case round =>
        obtain ⟨i, cs, hi, rfl, hO, hfl, hgb, hb2⟩ := hrel
        have HO := Lib.hid hO
        have HFL := Lib.hid hfl
        have hBr := hB.grown hgb (fun e => by injection e with e; omega)
        have hCr := hC.grown hgb (fun e => by injection e with e; omega)
        obtain ⟨p1, p2, p3⟩ := hBr.c3
        obtain ⟨p4, p5⟩ := hCr.c2
        have HKK : Hid (∀ x, w.heap.size + 1 + 1 + 1 ≤ x → x < wo.heap.size → wr.heap[x]? = wo.heap[x]?) := fun x h1 h2 => hgb.block x h2 (by simp; omega)
        have zr := hgb.size
        clear hO hfl
        by_cases hlt : i < xs.length
        · obtain ⟨u, hu⟩ := HFL.out.at_ hlt
          have cu : wr.cell? ⟨w.heap.size + 1 + 1, i, none⟩ = some u := (HO.out.cell i).trans hu
          have fu := HO.out.frozen i
          clear hu
          go_wp2_with fail
          go_roundw
          case rel => exact ⟨i + 1, _, by omega, by go_num, HO.out.set_ _ _, HFL.out.step hlt, gb_set hgb _ _, by repeat (first | with_reducible exact Below.refl _ _ | with_reducible refine Below.setCell ?_ (by first | omega | (simp <;> omega)) _ | with_reducible refine Below.drew ?_ | with_reducible refine below_drewN ?_ _ | with_reducible refine Below.alloc ?_ (by first | omega | (simp <;> omega)) _ | with_reducible refine Below.trans ?_ (Below.mono (by assumption) (by first | omega | (simp <;> omega))))⟩
          case measure => simp [intOf]; omega
        · have hin : i = xs.length := by omega
          subst hin
          go_wp2_with fail
          go_ret
          refine ⟨_, rfl, ?_, ?_⟩
          · have e : holdL xs.length back (labAt xs ls) ⟨1, q, kids⟩ = (List.range xs.length).map fun k => true := by
              unfold holdL
              rw [Fm.hold_eq]
              rfl
            rw [e]
            exact HFL.out.all HO.out (by omega) (by omega)
          · exact hb2

set_option maxRecDepth 100000 in
set_option maxHeartbeats 4000000 in
theorem l31Places_3 (xs : List Int) (back : Nat) (ls : List Int) (hl : LassoOK xs back ls) (q : Int) (kids : List Fm) (hk : kids.length = 1) (hkok : ∀ x ∈ kids, x.ok = true) (ih : ∀ x ∈ kids, PlacesG xs back ls x) (_hq0 : 0 ≤ q) (_hq7 : q ≤ 7) (w : World) (v s lv : Value)
    (h : At w Any (forms kids) v) (l : At w Any (ints xs) s) (m : At w Any (ints ls) lv) :
    Calls Try.prog 62 #[.agg #[.int .i64 3, .int .i64 q, v], .agg #[s, .int .i64 back], lv] w fun e w' => ∃ v', e = .returned v' ∧ At w' (From w.heap.size) (bools (holdL xs.length back (labAt xs ls) ⟨3, q, kids⟩)) v' ∧ Below w.heap.size w w' := by
  obtain ⟨A, c, rfl, hn, hc⟩ := forms_slice h
  obtain ⟨L, d, rfl, hnl, hcl⟩ := ints_slice l
  obtain ⟨M, e, rfl, hnm, hcm⟩ := ints_slice m
  have hB0 := (Blk.new w 38 #[.int .i64 3, .int .i64 q, .slice A kids.length c]).alloc (.cells #[.slice L xs.length d, .int .i64 back] 27)
  have hC0 := Blk.new (w.alloc (.cells #[.int .i64 3, .int .i64 q, .slice A kids.length c] 38)) 27 #[.slice L xs.length d, .int .i64 back]
  rw [World.size_alloc] at hC0
  have hO0 := Blk.new ((w.alloc (.cells #[.int .i64 3, .int .i64 q, .slice A kids.length c] 38)).alloc (.cells #[.slice L xs.length d, .int .i64 back] 27)) 4 (madeCells #[.bool false] xs.length)
  rw [World.size_alloc, World.size_alloc] at hO0
  have hks : kids.length ≤ 2 := by omega
  have hxl := hl.le
  have hmk := run_make_row' (P := Try.prog) 89 4 _ 1 Try.underlying89 Try.infoBool rfl .i64 .i64 xs.length (by omega) (by omega)
  have IH := Lib.hid ih
  have HK := Lib.hid hkok
  have HKL := Lib.hid hk
  have HO0 := Lib.hid hO0
  clear ih hkok hk hO0
  go_enter Try.func62, Try.ntmps62
  go_wp2_with fail
  go_loopw [9, 10] (fun kv t wr => ∃ j : Nat, j ≤ kids.length ∧ t = .int .i64 j ∧ KidRow wr (w.heap.size + 1 + 1 + 1) kv j (kids.map (holdL xs.length back (labAt xs ls))) ∧ w.heap.size + 1 + 1 + 1 ≤ wr.heap.size ∧
      Blk wr w.heap.size 38 #[.int .i64 3, .int .i64 q, .slice A kids.length c] ∧ Blk wr (w.heap.size + 1) 27 #[.slice L xs.length d, .int .i64 back] ∧ Blk wr (w.heap.size + 1 + 1) 4 (madeCells #[.bool false] xs.length) ∧ Below w.heap.size w wr) (fun _ t _ => kids.length - (intOf t).toNat)
  case atStart =>
    refine ⟨0, Nat.zero_le _, rfl, KidRow.none_ _ (Nat.le_refl _) ?_ rfl, by simp, (hB0.alloc _).alloc _, (hC0.alloc _).alloc _, HO0.out.alloc _, by repeat (first | with_reducible exact Below.refl _ _ | with_reducible refine Below.setCell ?_ (by first | omega | (simp <;> omega)) _ | with_reducible refine Below.drew ?_ | with_reducible refine below_drewN ?_ _ | with_reducible refine Below.alloc ?_ (by first | omega | (simp <;> omega)) _ | with_reducible refine Below.trans ?_ (Below.mono (by assumption) (by first | omega | (simp <;> omega))))⟩
    have := Blk.new (((w.alloc (.cells #[.int .i64 3, .int .i64 q, .slice A kids.length c] 38)).alloc (.cells #[.slice L xs.length d, .int .i64 back] 27)).alloc (.cells (madeCells #[.bool false] xs.length) 4)) 89 #[]
    rwa [World.size_alloc, World.size_alloc, World.size_alloc] at this
  case round =>
    obtain ⟨j, hj, rfl, hkr, hsz, hB, hC, hOO, hb⟩ := hrel
    obtain ⟨kv, rfl⟩ : ∃ kv : Value, kv = u9 := ⟨_, rfl⟩
    have HKR := Lib.hid hkr
    have HOO := Lib.hid hOO
    clear hkr hmk HO0 hOO hB0 hC0
    by_cases hlt : j < kids.length
    · obtain ⟨b, off, f, u, rfl, _, hlb, kc1, kc2, kc3, hu, HX, _⟩ := forms_get h hlt
      obtain ⟨Au, cu, rfl, hnu, hcu⟩ := forms_slice hu
      have hmem := List.mem_of_getElem? HX.out
      have hc1 := (hb.cell (p := ⟨b, off + j * 3, none⟩) hlb).trans kc1
      have hc2 := (hb.cell (p := ⟨b, off + j * 3 + 1, none⟩) hlb).trans kc2
      have hc3 := (hb.cell (p := ⟨b, off + j * 3 + 2, none⟩) hlb).trans kc3
      obtain ⟨q1, q2, q3⟩ := hB.c3
      obtain ⟨q4, q5⟩ := hC.c2
      have hu1 := (hu.below hb).drew
      have l1 := (l.below hb).drew
      have m1 := (m.below hb).drew
      have hij : (j : Int) < (kids.length : Int) := by omega
      obtain ⟨i0, hi, hz0, hz1, hz2⟩ := info_parts Try.infoBools
      go_wp2_with fail
      go_region_held3 (fun w' => w'.cell? ⟨w.heap.size, 2, none⟩ = some (.slice (some ⟨b, off, none⟩) kids.length c) ∧ w'.cell? ⟨w.heap.size + 1, 0, none⟩ = some (.slice L xs.length d) ∧ w'.cell? ⟨w.heap.size + 1, 1, none⟩ = some (.int .i64 back) ∧ w'.cell? ⟨b, off + j * 3, none⟩ = some (.int .i64 f.kind) ∧ w'.cell? ⟨b, off + j * 3 + 1, none⟩ = some (.int .i64 f.prop) ∧ w'.cell? ⟨b, off + j * 3 + 2, none⟩ = some (.slice Au f.kids.length cu)) (go_keep)
        (first | (go_at_call 62; refine (IH.out f hmem _ _ _ _ ?_ ?_ ?_ (HK.out f hmem)).mono ?_; (exact hu1); (exact l1); (exact m1); rintro e w1 ⟨v', rfl, ha, hb1⟩; obtain ⟨A', c', rfl, hn', hc'⟩ := bools_slice ha; have z1 := hb1.size; simp at z1; obtain ⟨b1, b2⟩ := bcell hb1; have y1 := ((hB.drew.next hb1).alloc (.cells #[.slice A' (holdL xs.length back (labAt xs ls) f).length c'] 89)).c3; have y2 := ((hC.drew.next hb1).alloc (.cells #[.slice A' (holdL xs.length back (labAt xs ls) f).length c'] 89)).c2; obtain ⟨y11, y12, y13⟩ := y1; obtain ⟨y21, y22⟩ := y2; obtain ⟨y31, y32, y33⟩ := (hB.drew.next hb1).c3; obtain ⟨y41, y42⟩ := (hC.drew.next hb1).c2; have x1 := (hb1.cell (p := ⟨b, off + j * 3, none⟩) (by simp; omega)).trans hc1; have x2 := (hb1.cell (p := ⟨b, off + j * 3 + 1, none⟩) (by simp; omega)).trans hc2; have x3 := (hb1.cell (p := ⟨b, off + j * 3 + 2, none⟩) (by simp; omega)).trans hc3; clear b1 b2; have xa1 := (World.cell?_alloc_lt w1 (.cells #[.slice A' (holdL xs.length back (labAt xs ls) f).length c'] 89) ⟨b, off + j * 3, none⟩ (by show b < w1.heap.size; omega)).trans x1; have xa2 := (World.cell?_alloc_lt w1 (.cells #[.slice A' (holdL xs.length back (labAt xs ls) f).length c'] 89) ⟨b, off + j * 3 + 1, none⟩ (by show b < w1.heap.size; omega)).trans x2; have xa3 := (World.cell?_alloc_lt w1 (.cells #[.slice A' (holdL xs.length back (labAt xs ls) f).length c'] 89) ⟨b, off + j * 3 + 2, none⟩ (by show b < w1.heap.size; omega)).trans x3; have HKR1 := Lib.hid (((HKR.out.below ((Below.refl _ _).drew)).below hb1).below ((Below.refl w1.heap.size w1).alloc (Nat.le_refl _) (.cells #[.slice A' (holdL xs.length back (labAt xs ls) f).length c'] 89))); obtain ⟨vs, hown, hvl, hvs⟩ := HKR1.out; have HOW := Lib.hid hown; have HNW := Lib.hid (World.news_of_block (heap_alloc_new w1 (.cells #[.slice A' (holdL xs.length back (labAt xs ls) f).length c'] 89))); clear hown hvs) | (refine step_append_lies _ (by rfl) _ _ _ (by rfl) (w.heap.size + 1 + 1 + 1) 89 i0 (.slice none 0 0) 1 24 Try.underlying107 hi hz0 hz1 hz2 rfl (by omega) kv j vs (by rfl) HOW.out ⟨w1.heap.size, 0, none⟩ 1 1 [.slice A' (holdL xs.length back (labAt xs ls) f).length c'] (by rfl) rfl HNW.out (by simp [Value.oneCell']) (by omega) (by unfold maxLen; omega) (by omega) (by simp; omega) (w1.heap.size + 1) (World.size_alloc _ _) ?_; intro g cap w3 hown3 hgrow3 hat3 hlt3; have HR := Lib.hid ((HKR.out.below ((Below.refl _ _).drew)).round (by show _ ≤ wr.heap.size; omega) hb1 ha (by simp [HX.out]) vs HOW.out hown3 hgrow3 hat3); obtain ⟨y51, y52, y53⟩ := (HR.out.2.2 _ _ _ (by omega) hB.drew).c3; obtain ⟨y61, y62⟩ := (HR.out.2.2 _ _ _ (by omega) hC.drew).c2; have x1 := (HR.out.2.1.cell (p := ⟨b, off + j * 3, none⟩) (by show b < _; omega)).trans hc1; have x2 := (HR.out.2.1.cell (p := ⟨b, off + j * 3 + 1, none⟩) (by show b < _; omega)).trans hc2; have x3 := (HR.out.2.1.cell (p := ⟨b, off + j * 3 + 2, none⟩) (by show b < _; omega)).trans hc3))
      go_wp2_with fail
      go_roundw
      case rel =>
        obtain ⟨r1, r2, r3⟩ := HR.out
        have z3 := r2.size
        simp at z3
        exact ⟨j + 1, by omega, by go_num, r1, by omega, r3 _ _ _ (by omega) hB.drew, r3 _ _ _ (by omega) hC.drew, r3 _ _ _ (by omega) HOO.out.drew, by repeat (first | with_reducible exact Below.refl _ _ | with_reducible refine Below.setCell ?_ (by first | omega | (simp <;> omega)) _ | with_reducible refine Below.drew ?_ | with_reducible refine below_drewN ?_ _ | with_reducible refine Below.alloc ?_ (by first | omega | (simp <;> omega)) _ | with_reducible refine Below.trans ?_ (Below.mono (by assumption) (by first | omega | (simp <;> omega))))⟩
      case measure => simp [intOf]; omega
    · have hjk : j = kids.length := by omega
      subst hjk
      obtain ⟨wo, rfl⟩ : ∃ wo : World, wo = wr := ⟨_, rfl⟩
      obtain ⟨q1, q2, q3⟩ := hB.c3
      have hpos := hl.pos
      have hbk := hl.back
      clear hlt hj
      go_wp2_with fail
      go_loopw [11] (fun t w2 => ∃ (i : Nat) (cs : Array Value), i ≤ xs.length ∧ t = .int .i64 i ∧ Blk w2 (w.heap.size + 1 + 1) 4 cs ∧ Filled cs xs.length i (fun k => !kidH xs back ls kids 0 k) ∧ wo.grownBy w2 (some (w.heap.size + 1 + 1)) ∧ Below w.heap.size w w2) (fun t _ => xs.length - (intOf t).toNat)
      case atStart => exact ⟨0, _, Nat.zero_le _, rfl, HOO.out, Filled.start _ _, World.grownBy.refl _ _, hb⟩
      case round =>
        obtain ⟨i, cs, hi, rfl, hO, hfl, hgb, hb2⟩ := hrel
        have HO := Lib.hid hO
        have HFL := Lib.hid hfl
        have hBr := hB.grown hgb (fun e => by injection e with e; omega)
        have hCr := hC.grown hgb (fun e => by injection e with e; omega)
        obtain ⟨p1, p2, p3⟩ := hBr.c3
        obtain ⟨p4, p5⟩ := hCr.c2
        have HKK : Hid (∀ x, w.heap.size + 1 + 1 + 1 ≤ x → x < wo.heap.size → wr.heap[x]? = wo.heap[x]?) := fun x h1 h2 => hgb.block x h2 (by simp; omega)
        have zr := hgb.size
        clear hO hfl
        by_cases hlt : i < xs.length
        · obtain ⟨u, hu⟩ := HFL.out.at_ hlt
          have cu : wr.cell? ⟨w.heap.size + 1 + 1, i, none⟩ = some u := (HO.out.cell i).trans hu
          have fu := HO.out.frozen i
          clear hu
          have hj1 : 0 < kids.length := by rw [HKL.out]; omega
          obtain ⟨g, cap, b0, o0, c0, rfl, hg0, hg, hb0, hb0', k1, hc0, k2⟩ := HKR.out.cellS HKK.out hj1 hlt
          go_wp2_with fail
          go_roundw
          case rel => exact ⟨i + 1, _, by omega, by go_num, HO.out.set_ _ _, HFL.out.step hlt, gb_set hgb _ _, by repeat (first | with_reducible exact Below.refl _ _ | with_reducible refine Below.setCell ?_ (by first | omega | (simp <;> omega)) _ | with_reducible refine Below.drew ?_ | with_reducible refine below_drewN ?_ _ | with_reducible refine Below.alloc ?_ (by first | omega | (simp <;> omega)) _ | with_reducible refine Below.trans ?_ (Below.mono (by assumption) (by first | omega | (simp <;> omega))))⟩
          case measure => simp [intOf]; omega
        · have hin : i = xs.length := by omega
          subst hin
          go_wp2_with fail
          go_ret
          refine ⟨_, rfl, ?_, ?_⟩
          · have e : holdL xs.length back (labAt xs ls) ⟨3, q, kids⟩ = (List.range xs.length).map fun k => !kidH xs back ls kids 0 k := by
              unfold holdL
              rw [Fm.hold_eq]
              rfl
            rw [e]
            exact HFL.out.all HO.out (by omega) (by omega)
          · exact hb2

end Go.Proofs.Ytagnfckihdlhpaa

/-
  What the reference's l2Has answers for a label and a proposition; l31After by numbers.
-/
namespace Go.Proofs.Ytagnfckihdlhpaa
open Go.RowKit

theorem has_all : ∀ ny, ny < 256 → ∀ nq, nq < 8 → (bits BinOp.and IntKind.i64 (((ny : Nat) : Int) / 2 ^ nq) 1 == 1) = ny.testBit nq := by decide +kernel

set_option maxHeartbeats 1000000 in
theorem l2Has_any (ny nq : Nat) (h1 : ny < 256) (h2 : nq < 8) (w : World) :
    Calls Try.prog 77 #[.int .i64 ny, .int .i64 nq] w fun e w' => e = .returned (.bool (hasBit ny nq)) ∧ w = w' := by
  have HA := Lib.hid (has_all ny h1 nq h2)
  go_enter Try.func77, Try.ntmps77
  go_wp2_with fail
  go_ret
  exact ⟨ret_bool HA.out, rfl⟩

theorem afterN (xs : List Int) (back : Nat) (i : Nat) (hi : i < xs.length) (w : World) (v : Value) (h : At w Any (ints xs) v) :
    Calls Try.prog 65 #[.agg #[v, .int .i64 back], .int .i64 i] w fun e w' => e = .returned (.int .i64 (nxt xs.length back i : Nat)) ∧ Below w.heap.size w w' :=
  (l31After_any xs back i hi w v h).mono fun e w' hh => ⟨by
    rw [hh.1]
    unfold afterP nxt
    split <;> rfl, hh.2⟩

end Go.Proofs.Ytagnfckihdlhpaa

/-
  What the reference's l31Places computes at the kinds 2 and 6.
-/
namespace Go.Proofs.Ytagnfckihdlhpaa
open Go.RowKit

set_option maxRecDepth 100000 in
set_option maxHeartbeats 4000000 in
theorem l31Places_2 (xs : List Int) (back : Nat) (ls : List Int) (hl : LassoOK xs back ls) (q : Int) (kids : List Fm) (hk : kids.length = 0) (hkok : ∀ x ∈ kids, x.ok = true) (ih : ∀ x ∈ kids, PlacesG xs back ls x) (_hq0 : 0 ≤ q) (_hq7 : q ≤ 7) (w : World) (v s lv : Value)
    (h : At w Any (forms kids) v) (l : At w Any (ints xs) s) (m : At w Any (ints ls) lv) :
    Calls Try.prog 62 #[.agg #[.int .i64 2, .int .i64 q, v], .agg #[s, .int .i64 back], lv] w fun e w' => ∃ v', e = .returned v' ∧ At w' (From w.heap.size) (bools (holdL xs.length back (labAt xs ls) ⟨2, q, kids⟩)) v' ∧ Below w.heap.size w w' := by
  obtain ⟨A, c, rfl, hn, hc⟩ := forms_slice h
  obtain ⟨L, d, rfl, hnl, hcl⟩ := ints_slice l
  obtain ⟨M, e, rfl, hnm, hcm⟩ := ints_slice m
  have hB0 := (Blk.new w 38 #[.int .i64 2, .int .i64 q, .slice A kids.length c]).alloc (.cells #[.slice L xs.length d, .int .i64 back] 27)
  have hC0 := Blk.new (w.alloc (.cells #[.int .i64 2, .int .i64 q, .slice A kids.length c] 38)) 27 #[.slice L xs.length d, .int .i64 back]
  rw [World.size_alloc] at hC0
  have hO0 := Blk.new ((w.alloc (.cells #[.int .i64 2, .int .i64 q, .slice A kids.length c] 38)).alloc (.cells #[.slice L xs.length d, .int .i64 back] 27)) 4 (madeCells #[.bool false] xs.length)
  rw [World.size_alloc, World.size_alloc] at hO0
  have hks : kids.length ≤ 2 := by omega
  have hxl := hl.le
  have hmk := run_make_row' (P := Try.prog) 89 4 _ 1 Try.underlying89 Try.infoBool rfl .i64 .i64 xs.length (by omega) (by omega)
  have IH := Lib.hid ih
  have HK := Lib.hid hkok
  have HKL := Lib.hid hk
  have HO0 := Lib.hid hO0
  clear ih hkok hk hO0
  go_enter Try.func62, Try.ntmps62
  go_wp2_with fail
  go_loopw [9, 10] (fun kv t wr => ∃ j : Nat, j ≤ kids.length ∧ t = .int .i64 j ∧ KidRow wr (w.heap.size + 1 + 1 + 1) kv j (kids.map (holdL xs.length back (labAt xs ls))) ∧ w.heap.size + 1 + 1 + 1 ≤ wr.heap.size ∧
      Blk wr w.heap.size 38 #[.int .i64 2, .int .i64 q, .slice A kids.length c] ∧ Blk wr (w.heap.size + 1) 27 #[.slice L xs.length d, .int .i64 back] ∧ Blk wr (w.heap.size + 1 + 1) 4 (madeCells #[.bool false] xs.length) ∧ Below w.heap.size w wr) (fun _ t _ => kids.length - (intOf t).toNat)
  case atStart =>
    refine ⟨0, Nat.zero_le _, rfl, KidRow.none_ _ (Nat.le_refl _) ?_ rfl, by simp, (hB0.alloc _).alloc _, (hC0.alloc _).alloc _, HO0.out.alloc _, by repeat (first | with_reducible exact Below.refl _ _ | with_reducible refine Below.setCell ?_ (by first | omega | (simp <;> omega)) _ | with_reducible refine Below.drew ?_ | with_reducible refine below_drewN ?_ _ | with_reducible refine Below.alloc ?_ (by first | omega | (simp <;> omega)) _ | with_reducible refine Below.trans ?_ (Below.mono (by assumption) (by first | omega | (simp <;> omega))))⟩
    have := Blk.new (((w.alloc (.cells #[.int .i64 2, .int .i64 q, .slice A kids.length c] 38)).alloc (.cells #[.slice L xs.length d, .int .i64 back] 27)).alloc (.cells (madeCells #[.bool false] xs.length) 4)) 89 #[]
    rwa [World.size_alloc, World.size_alloc, World.size_alloc] at this
  case round =>
    obtain ⟨j, hj, rfl, hkr, hsz, hB, hC, hOO, hb⟩ := hrel
    obtain ⟨kv, rfl⟩ : ∃ kv : Value, kv = u9 := ⟨_, rfl⟩
    have HKR := Lib.hid hkr
    have HOO := Lib.hid hOO
    clear hkr hmk HO0 hOO hB0 hC0
    by_cases hlt : j < kids.length
    · obtain ⟨b, off, f, u, rfl, _, hlb, kc1, kc2, kc3, hu, HX, _⟩ := forms_get h hlt
      obtain ⟨Au, cu, rfl, hnu, hcu⟩ := forms_slice hu
      have hmem := List.mem_of_getElem? HX.out
      have hc1 := (hb.cell (p := ⟨b, off + j * 3, none⟩) hlb).trans kc1
      have hc2 := (hb.cell (p := ⟨b, off + j * 3 + 1, none⟩) hlb).trans kc2
      have hc3 := (hb.cell (p := ⟨b, off + j * 3 + 2, none⟩) hlb).trans kc3
      obtain ⟨q1, q2, q3⟩ := hB.c3
      obtain ⟨q4, q5⟩ := hC.c2
      have hu1 := (hu.below hb).drew
      have l1 := (l.below hb).drew
      have m1 := (m.below hb).drew
      have hij : (j : Int) < (kids.length : Int) := by omega
      obtain ⟨i0, hi, hz0, hz1, hz2⟩ := info_parts Try.infoBools
      go_wp2_with fail
      go_region_held3 (fun w' => w'.cell? ⟨w.heap.size, 2, none⟩ = some (.slice (some ⟨b, off, none⟩) kids.length c) ∧ w'.cell? ⟨w.heap.size + 1, 0, none⟩ = some (.slice L xs.length d) ∧ w'.cell? ⟨w.heap.size + 1, 1, none⟩ = some (.int .i64 back) ∧ w'.cell? ⟨b, off + j * 3, none⟩ = some (.int .i64 f.kind) ∧ w'.cell? ⟨b, off + j * 3 + 1, none⟩ = some (.int .i64 f.prop) ∧ w'.cell? ⟨b, off + j * 3 + 2, none⟩ = some (.slice Au f.kids.length cu)) (go_keep)
        (first | (go_at_call 62; refine (IH.out f hmem _ _ _ _ ?_ ?_ ?_ (HK.out f hmem)).mono ?_; (exact hu1); (exact l1); (exact m1); rintro e w1 ⟨v', rfl, ha, hb1⟩; obtain ⟨A', c', rfl, hn', hc'⟩ := bools_slice ha; have z1 := hb1.size; simp at z1; obtain ⟨b1, b2⟩ := bcell hb1; have y1 := ((hB.drew.next hb1).alloc (.cells #[.slice A' (holdL xs.length back (labAt xs ls) f).length c'] 89)).c3; have y2 := ((hC.drew.next hb1).alloc (.cells #[.slice A' (holdL xs.length back (labAt xs ls) f).length c'] 89)).c2; obtain ⟨y11, y12, y13⟩ := y1; obtain ⟨y21, y22⟩ := y2; obtain ⟨y31, y32, y33⟩ := (hB.drew.next hb1).c3; obtain ⟨y41, y42⟩ := (hC.drew.next hb1).c2; have x1 := (hb1.cell (p := ⟨b, off + j * 3, none⟩) (by simp; omega)).trans hc1; have x2 := (hb1.cell (p := ⟨b, off + j * 3 + 1, none⟩) (by simp; omega)).trans hc2; have x3 := (hb1.cell (p := ⟨b, off + j * 3 + 2, none⟩) (by simp; omega)).trans hc3; clear b1 b2; have xa1 := (World.cell?_alloc_lt w1 (.cells #[.slice A' (holdL xs.length back (labAt xs ls) f).length c'] 89) ⟨b, off + j * 3, none⟩ (by show b < w1.heap.size; omega)).trans x1; have xa2 := (World.cell?_alloc_lt w1 (.cells #[.slice A' (holdL xs.length back (labAt xs ls) f).length c'] 89) ⟨b, off + j * 3 + 1, none⟩ (by show b < w1.heap.size; omega)).trans x2; have xa3 := (World.cell?_alloc_lt w1 (.cells #[.slice A' (holdL xs.length back (labAt xs ls) f).length c'] 89) ⟨b, off + j * 3 + 2, none⟩ (by show b < w1.heap.size; omega)).trans x3; have HKR1 := Lib.hid (((HKR.out.below ((Below.refl _ _).drew)).below hb1).below ((Below.refl w1.heap.size w1).alloc (Nat.le_refl _) (.cells #[.slice A' (holdL xs.length back (labAt xs ls) f).length c'] 89))); obtain ⟨vs, hown, hvl, hvs⟩ := HKR1.out; have HOW := Lib.hid hown; have HNW := Lib.hid (World.news_of_block (heap_alloc_new w1 (.cells #[.slice A' (holdL xs.length back (labAt xs ls) f).length c'] 89))); clear hown hvs) | (refine step_append_lies _ (by rfl) _ _ _ (by rfl) (w.heap.size + 1 + 1 + 1) 89 i0 (.slice none 0 0) 1 24 Try.underlying107 hi hz0 hz1 hz2 rfl (by omega) kv j vs (by rfl) HOW.out ⟨w1.heap.size, 0, none⟩ 1 1 [.slice A' (holdL xs.length back (labAt xs ls) f).length c'] (by rfl) rfl HNW.out (by simp [Value.oneCell']) (by omega) (by unfold maxLen; omega) (by omega) (by simp; omega) (w1.heap.size + 1) (World.size_alloc _ _) ?_; intro g cap w3 hown3 hgrow3 hat3 hlt3; have HR := Lib.hid ((HKR.out.below ((Below.refl _ _).drew)).round (by show _ ≤ wr.heap.size; omega) hb1 ha (by simp [HX.out]) vs HOW.out hown3 hgrow3 hat3); obtain ⟨y51, y52, y53⟩ := (HR.out.2.2 _ _ _ (by omega) hB.drew).c3; obtain ⟨y61, y62⟩ := (HR.out.2.2 _ _ _ (by omega) hC.drew).c2; have x1 := (HR.out.2.1.cell (p := ⟨b, off + j * 3, none⟩) (by show b < _; omega)).trans hc1; have x2 := (HR.out.2.1.cell (p := ⟨b, off + j * 3 + 1, none⟩) (by show b < _; omega)).trans hc2; have x3 := (HR.out.2.1.cell (p := ⟨b, off + j * 3 + 2, none⟩) (by show b < _; omega)).trans hc3))
      go_wp2_with fail
      go_roundw
      case rel =>
        obtain ⟨r1, r2, r3⟩ := HR.out
        have z3 := r2.size
        simp at z3
        exact ⟨j + 1, by omega, by go_num, r1, by omega, r3 _ _ _ (by omega) hB.drew, r3 _ _ _ (by omega) hC.drew, r3 _ _ _ (by omega) HOO.out.drew, by repeat (first | with_reducible exact Below.refl _ _ | with_reducible refine Below.setCell ?_ (by first | omega | (simp <;> omega)) _ | with_reducible refine Below.drew ?_ | with_reducible refine below_drewN ?_ _ | with_reducible refine Below.alloc ?_ (by first | omega | (simp <;> omega)) _ | with_reducible refine Below.trans ?_ (Below.mono (by assumption) (by first | omega | (simp <;> omega))))⟩
      case measure => simp [intOf]; omega
    · have hjk : j = kids.length := by omega
      subst hjk
      obtain ⟨wo, rfl⟩ : ∃ wo : World, wo = wr := ⟨_, rfl⟩
      obtain ⟨q1, q2, q3⟩ := hB.c3
      have hpos := hl.pos
      have hbk := hl.back
      clear hlt hj
      go_wp2_with fail
      go_loopw [11] (fun t w2 => ∃ (i : Nat) (cs : Array Value), i ≤ xs.length ∧ t = .int .i64 i ∧ Blk w2 (w.heap.size + 1 + 1) 4 cs ∧ Filled cs xs.length i (fun k => hasBit (labAt xs ls k) q) ∧ wo.grownBy w2 (some (w.heap.size + 1 + 1)) ∧ Below w.heap.size w w2) (fun t _ => xs.length - (intOf t).toNat)
      case atStart => exact ⟨0, _, Nat.zero_le _, rfl, HOO.out, Filled.start _ _, World.grownBy.refl _ _, hb⟩
      case round =>
        obtain ⟨i, cs, hi, rfl, hO, hfl, hgb, hb2⟩ := hrel
        have HO := Lib.hid hO
        have HFL := Lib.hid hfl
        have hBr := hB.grown hgb (fun e => by injection e with e; omega)
        have hCr := hC.grown hgb (fun e => by injection e with e; omega)
        obtain ⟨p1, p2, p3⟩ := hBr.c3
        obtain ⟨p4, p5⟩ := hCr.c2
        have HKK : Hid (∀ x, w.heap.size + 1 + 1 + 1 ≤ x → x < wo.heap.size → wr.heap[x]? = wo.heap[x]?) := fun x h1 h2 => hgb.block x h2 (by simp; omega)
        have zr := hgb.size
        clear hO hfl
        by_cases hlt : i < xs.length
        · obtain ⟨u, hu⟩ := HFL.out.at_ hlt
          have cu : wr.cell? ⟨w.heap.size + 1 + 1, i, none⟩ = some u := (HO.out.cell i).trans hu
          have fu := HO.out.frozen i
          clear hu
          obtain ⟨bl, ol, x, rfl, _, hll, cx0, HX, _⟩ := ints_get l hlt
          have hst := hl.states x (List.mem_of_getElem? HX.out)
          obtain ⟨nx, rfl⟩ := Int.eq_ofNat_of_zero_le hst.1
          have hnx : nx < ls.length := by omega
          obtain ⟨bm, om, y, rfl, _, hlm, cy0, HY, _⟩ := ints_get m hnx
          have hy := hl.labels y (List.mem_of_getElem? HY.out)
          obtain ⟨ny, rfl⟩ := Int.eq_ofNat_of_zero_le hy.1
          obtain ⟨nq, rfl⟩ := Int.eq_ofNat_of_zero_le _hq0
          have cx := (hb2.cell (p := ⟨bl, ol + i, none⟩) hll).trans cx0
          have cy := (hb2.cell (p := ⟨bm, om + nx, none⟩) hlm).trans cy0
          have hnx' : (nx : Int) < (ls.length : Int) := by omega
          have hii : (i : Int) < (xs.length : Int) := by omega
          have hne1 : ¬ bm = w.heap.size + 1 + 1 := by omega
          have hne2 : ¬ bl = w.heap.size + 1 + 1 := by omega
          have hne3 : ¬ w.heap.size + 1 + 1 = bm := by omega
          have hne4 : ¬ w.heap.size + 1 + 1 = bl := by omega
          have hne5 : ¬ w.heap.size = w.heap.size + 1 + 1 := by omega
          have hne6 : ¬ w.heap.size + 1 + 1 = w.heap.size := by omega
          go_wp2_with fail
          go_region_held3 (fun w' => w'.cell? ⟨w.heap.size + 1, 0, none⟩ = some (.slice (some ⟨bl, ol, none⟩) xs.length d) ∧ w'.cell? ⟨bl, ol + i, none⟩ = some (.int .i64 nx) ∧ w'.cell? ⟨bm, om + nx, none⟩ = some (.int .i64 ny) ∧ w'.cell? ⟨w.heap.size, 1, none⟩ = some (.int .i64 nq)) (go_keep)
            (first | (go_at_call 77; refine (l2Has_any ny nq (by omega) (by omega) _).mono ?_; rintro e w4 ⟨rfl, rfl⟩))
          go_wp2_with fail
          go_roundw
          case rel => exact ⟨i + 1, _, by omega, by go_num, HO.out.set_ _ _, HFL.out.to hlt (by rw [labAt_of HX.out HY.out]), gb_drew (gb_set hgb _ _), by repeat (first | with_reducible exact Below.refl _ _ | with_reducible refine Below.setCell ?_ (by first | omega | (simp <;> omega)) _ | with_reducible refine Below.drew ?_ | with_reducible refine below_drewN ?_ _ | with_reducible refine Below.alloc ?_ (by first | omega | (simp <;> omega)) _ | with_reducible refine Below.trans ?_ (Below.mono (by assumption) (by first | omega | (simp <;> omega))))⟩
          case measure => simp [intOf]; omega
        · have hin : i = xs.length := by omega
          subst hin
          go_wp2_with fail
          go_ret
          refine ⟨_, rfl, ?_, ?_⟩
          · have e : holdL xs.length back (labAt xs ls) ⟨2, q, kids⟩ = (List.range xs.length).map fun k => hasBit (labAt xs ls k) q := by
              unfold holdL
              rw [Fm.hold_eq]
              rfl
            rw [e]
            exact HFL.out.all HO.out (by omega) (by omega)
          · exact hb2

set_option maxRecDepth 100000 in
set_option maxHeartbeats 4000000 in
theorem l31Places_6 (xs : List Int) (back : Nat) (ls : List Int) (hl : LassoOK xs back ls) (q : Int) (kids : List Fm) (hk : kids.length = 1) (hkok : ∀ x ∈ kids, x.ok = true) (ih : ∀ x ∈ kids, PlacesG xs back ls x) (_hq0 : 0 ≤ q) (_hq7 : q ≤ 7) (w : World) (v s lv : Value)
    (h : At w Any (forms kids) v) (l : At w Any (ints xs) s) (m : At w Any (ints ls) lv) :
    Calls Try.prog 62 #[.agg #[.int .i64 6, .int .i64 q, v], .agg #[s, .int .i64 back], lv] w fun e w' => ∃ v', e = .returned v' ∧ At w' (From w.heap.size) (bools (holdL xs.length back (labAt xs ls) ⟨6, q, kids⟩)) v' ∧ Below w.heap.size w w' := by
  obtain ⟨A, c, rfl, hn, hc⟩ := forms_slice h
  obtain ⟨L, d, rfl, hnl, hcl⟩ := ints_slice l
  obtain ⟨M, e, rfl, hnm, hcm⟩ := ints_slice m
  have hB0 := (Blk.new w 38 #[.int .i64 6, .int .i64 q, .slice A kids.length c]).alloc (.cells #[.slice L xs.length d, .int .i64 back] 27)
  have hC0 := Blk.new (w.alloc (.cells #[.int .i64 6, .int .i64 q, .slice A kids.length c] 38)) 27 #[.slice L xs.length d, .int .i64 back]
  rw [World.size_alloc] at hC0
  have hO0 := Blk.new ((w.alloc (.cells #[.int .i64 6, .int .i64 q, .slice A kids.length c] 38)).alloc (.cells #[.slice L xs.length d, .int .i64 back] 27)) 4 (madeCells #[.bool false] xs.length)
  rw [World.size_alloc, World.size_alloc] at hO0
  have hks : kids.length ≤ 2 := by omega
  have hxl := hl.le
  have hmk := run_make_row' (P := Try.prog) 89 4 _ 1 Try.underlying89 Try.infoBool rfl .i64 .i64 xs.length (by omega) (by omega)
  have IH := Lib.hid ih
  have HK := Lib.hid hkok
  have HKL := Lib.hid hk
  have HO0 := Lib.hid hO0
  clear ih hkok hk hO0
  go_enter Try.func62, Try.ntmps62
  go_wp2_with fail
  go_loopw [9, 10] (fun kv t wr => ∃ j : Nat, j ≤ kids.length ∧ t = .int .i64 j ∧ KidRow wr (w.heap.size + 1 + 1 + 1) kv j (kids.map (holdL xs.length back (labAt xs ls))) ∧ w.heap.size + 1 + 1 + 1 ≤ wr.heap.size ∧
      Blk wr w.heap.size 38 #[.int .i64 6, .int .i64 q, .slice A kids.length c] ∧ Blk wr (w.heap.size + 1) 27 #[.slice L xs.length d, .int .i64 back] ∧ Blk wr (w.heap.size + 1 + 1) 4 (madeCells #[.bool false] xs.length) ∧ Below w.heap.size w wr) (fun _ t _ => kids.length - (intOf t).toNat)
  case atStart =>
    refine ⟨0, Nat.zero_le _, rfl, KidRow.none_ _ (Nat.le_refl _) ?_ rfl, by simp, (hB0.alloc _).alloc _, (hC0.alloc _).alloc _, HO0.out.alloc _, by repeat (first | with_reducible exact Below.refl _ _ | with_reducible refine Below.setCell ?_ (by first | omega | (simp <;> omega)) _ | with_reducible refine Below.drew ?_ | with_reducible refine below_drewN ?_ _ | with_reducible refine Below.alloc ?_ (by first | omega | (simp <;> omega)) _ | with_reducible refine Below.trans ?_ (Below.mono (by assumption) (by first | omega | (simp <;> omega))))⟩
    have := Blk.new (((w.alloc (.cells #[.int .i64 6, .int .i64 q, .slice A kids.length c] 38)).alloc (.cells #[.slice L xs.length d, .int .i64 back] 27)).alloc (.cells (madeCells #[.bool false] xs.length) 4)) 89 #[]
    rwa [World.size_alloc, World.size_alloc, World.size_alloc] at this
  case round =>
    obtain ⟨j, hj, rfl, hkr, hsz, hB, hC, hOO, hb⟩ := hrel
    obtain ⟨kv, rfl⟩ : ∃ kv : Value, kv = u9 := ⟨_, rfl⟩
    have HKR := Lib.hid hkr
    have HOO := Lib.hid hOO
    clear hkr hmk HO0 hOO hB0 hC0
    by_cases hlt : j < kids.length
    · obtain ⟨b, off, f, u, rfl, _, hlb, kc1, kc2, kc3, hu, HX, _⟩ := forms_get h hlt
      obtain ⟨Au, cu, rfl, hnu, hcu⟩ := forms_slice hu
      have hmem := List.mem_of_getElem? HX.out
      have hc1 := (hb.cell (p := ⟨b, off + j * 3, none⟩) hlb).trans kc1
      have hc2 := (hb.cell (p := ⟨b, off + j * 3 + 1, none⟩) hlb).trans kc2
      have hc3 := (hb.cell (p := ⟨b, off + j * 3 + 2, none⟩) hlb).trans kc3
      obtain ⟨q1, q2, q3⟩ := hB.c3
      obtain ⟨q4, q5⟩ := hC.c2
      have hu1 := (hu.below hb).drew
      have l1 := (l.below hb).drew
      have m1 := (m.below hb).drew
      have hij : (j : Int) < (kids.length : Int) := by omega
      obtain ⟨i0, hi, hz0, hz1, hz2⟩ := info_parts Try.infoBools
      go_wp2_with fail
      go_region_held3 (fun w' => w'.cell? ⟨w.heap.size, 2, none⟩ = some (.slice (some ⟨b, off, none⟩) kids.length c) ∧ w'.cell? ⟨w.heap.size + 1, 0, none⟩ = some (.slice L xs.length d) ∧ w'.cell? ⟨w.heap.size + 1, 1, none⟩ = some (.int .i64 back) ∧ w'.cell? ⟨b, off + j * 3, none⟩ = some (.int .i64 f.kind) ∧ w'.cell? ⟨b, off + j * 3 + 1, none⟩ = some (.int .i64 f.prop) ∧ w'.cell? ⟨b, off + j * 3 + 2, none⟩ = some (.slice Au f.kids.length cu)) (go_keep)
        (first | (go_at_call 62; refine (IH.out f hmem _ _ _ _ ?_ ?_ ?_ (HK.out f hmem)).mono ?_; (exact hu1); (exact l1); (exact m1); rintro e w1 ⟨v', rfl, ha, hb1⟩; obtain ⟨A', c', rfl, hn', hc'⟩ := bools_slice ha; have z1 := hb1.size; simp at z1; obtain ⟨b1, b2⟩ := bcell hb1; have y1 := ((hB.drew.next hb1).alloc (.cells #[.slice A' (holdL xs.length back (labAt xs ls) f).length c'] 89)).c3; have y2 := ((hC.drew.next hb1).alloc (.cells #[.slice A' (holdL xs.length back (labAt xs ls) f).length c'] 89)).c2; obtain ⟨y11, y12, y13⟩ := y1; obtain ⟨y21, y22⟩ := y2; obtain ⟨y31, y32, y33⟩ := (hB.drew.next hb1).c3; obtain ⟨y41, y42⟩ := (hC.drew.next hb1).c2; have x1 := (hb1.cell (p := ⟨b, off + j * 3, none⟩) (by simp; omega)).trans hc1; have x2 := (hb1.cell (p := ⟨b, off + j * 3 + 1, none⟩) (by simp; omega)).trans hc2; have x3 := (hb1.cell (p := ⟨b, off + j * 3 + 2, none⟩) (by simp; omega)).trans hc3; clear b1 b2; have xa1 := (World.cell?_alloc_lt w1 (.cells #[.slice A' (holdL xs.length back (labAt xs ls) f).length c'] 89) ⟨b, off + j * 3, none⟩ (by show b < w1.heap.size; omega)).trans x1; have xa2 := (World.cell?_alloc_lt w1 (.cells #[.slice A' (holdL xs.length back (labAt xs ls) f).length c'] 89) ⟨b, off + j * 3 + 1, none⟩ (by show b < w1.heap.size; omega)).trans x2; have xa3 := (World.cell?_alloc_lt w1 (.cells #[.slice A' (holdL xs.length back (labAt xs ls) f).length c'] 89) ⟨b, off + j * 3 + 2, none⟩ (by show b < w1.heap.size; omega)).trans x3; have HKR1 := Lib.hid (((HKR.out.below ((Below.refl _ _).drew)).below hb1).below ((Below.refl w1.heap.size w1).alloc (Nat.le_refl _) (.cells #[.slice A' (holdL xs.length back (labAt xs ls) f).length c'] 89))); obtain ⟨vs, hown, hvl, hvs⟩ := HKR1.out; have HOW := Lib.hid hown; have HNW := Lib.hid (World.news_of_block (heap_alloc_new w1 (.cells #[.slice A' (holdL xs.length back (labAt xs ls) f).length c'] 89))); clear hown hvs) | (refine step_append_lies _ (by rfl) _ _ _ (by rfl) (w.heap.size + 1 + 1 + 1) 89 i0 (.slice none 0 0) 1 24 Try.underlying107 hi hz0 hz1 hz2 rfl (by omega) kv j vs (by rfl) HOW.out ⟨w1.heap.size, 0, none⟩ 1 1 [.slice A' (holdL xs.length back (labAt xs ls) f).length c'] (by rfl) rfl HNW.out (by simp [Value.oneCell']) (by omega) (by unfold maxLen; omega) (by omega) (by simp; omega) (w1.heap.size + 1) (World.size_alloc _ _) ?_; intro g cap w3 hown3 hgrow3 hat3 hlt3; have HR := Lib.hid ((HKR.out.below ((Below.refl _ _).drew)).round (by show _ ≤ wr.heap.size; omega) hb1 ha (by simp [HX.out]) vs HOW.out hown3 hgrow3 hat3); obtain ⟨y51, y52, y53⟩ := (HR.out.2.2 _ _ _ (by omega) hB.drew).c3; obtain ⟨y61, y62⟩ := (HR.out.2.2 _ _ _ (by omega) hC.drew).c2; have x1 := (HR.out.2.1.cell (p := ⟨b, off + j * 3, none⟩) (by show b < _; omega)).trans hc1; have x2 := (HR.out.2.1.cell (p := ⟨b, off + j * 3 + 1, none⟩) (by show b < _; omega)).trans hc2; have x3 := (HR.out.2.1.cell (p := ⟨b, off + j * 3 + 2, none⟩) (by show b < _; omega)).trans hc3))
      go_wp2_with fail
      go_roundw
      case rel =>
        obtain ⟨r1, r2, r3⟩ := HR.out
        have z3 := r2.size
        simp at z3
        exact ⟨j + 1, by omega, by go_num, r1, by omega, r3 _ _ _ (by omega) hB.drew, r3 _ _ _ (by omega) hC.drew, r3 _ _ _ (by omega) HOO.out.drew, by repeat (first | with_reducible exact Below.refl _ _ | with_reducible refine Below.setCell ?_ (by first | omega | (simp <;> omega)) _ | with_reducible refine Below.drew ?_ | with_reducible refine below_drewN ?_ _ | with_reducible refine Below.alloc ?_ (by first | omega | (simp <;> omega)) _ | with_reducible refine Below.trans ?_ (Below.mono (by assumption) (by first | omega | (simp <;> omega))))⟩
      case measure => simp [intOf]; omega
    · have hjk : j = kids.length := by omega
      subst hjk
      obtain ⟨wo, rfl⟩ : ∃ wo : World, wo = wr := ⟨_, rfl⟩
      obtain ⟨q1, q2, q3⟩ := hB.c3
      have hpos := hl.pos
      have hbk := hl.back
      clear hlt hj
      go_wp2_with fail
      go_loopw [11] (fun t w2 => ∃ (i : Nat) (cs : Array Value), i ≤ xs.length ∧ t = .int .i64 i ∧ Blk w2 (w.heap.size + 1 + 1) 4 cs ∧ Filled cs xs.length i (fun k => kidH xs back ls kids 0 (nxt xs.length back k)) ∧ wo.grownBy w2 (some (w.heap.size + 1 + 1)) ∧ Below w.heap.size w w2) (fun t _ => xs.length - (intOf t).toNat)
      case atStart => exact ⟨0, _, Nat.zero_le _, rfl, HOO.out, Filled.start _ _, World.grownBy.refl _ _, hb⟩
      case round =>
        obtain ⟨i, cs, hi, rfl, hO, hfl, hgb, hb2⟩ := hrel
        have HO := Lib.hid hO
        have HFL := Lib.hid hfl
        have hBr := hB.grown hgb (fun e => by injection e with e; omega)
        have hCr := hC.grown hgb (fun e => by injection e with e; omega)
        obtain ⟨p1, p2, p3⟩ := hBr.c3
        obtain ⟨p4, p5⟩ := hCr.c2
        have HKK : Hid (∀ x, w.heap.size + 1 + 1 + 1 ≤ x → x < wo.heap.size → wr.heap[x]? = wo.heap[x]?) := fun x h1 h2 => hgb.block x h2 (by simp; omega)
        have zr := hgb.size
        clear hO hfl
        by_cases hlt : i < xs.length
        · obtain ⟨u, hu⟩ := HFL.out.at_ hlt
          have cu : wr.cell? ⟨w.heap.size + 1 + 1, i, none⟩ = some u := (HO.out.cell i).trans hu
          have fu := HO.out.frozen i
          clear hu
          have hj1 : 0 < kids.length := by rw [HKL.out]; omega
          have hnx := nxt_lt (i := i) hbk
          obtain ⟨g, cap, b0, o0, c0, rfl, hg0, hg, hb0, hb0', k1, hc0, k2⟩ := HKR.out.cellS HKK.out hj1 hnx
          have HNX : Hid (∀ (W : World) (s : Value), At W Any (ints xs) s → Calls Try.prog 65 #[.agg #[s, .int .i64 back], .int .i64 i] W fun e w' => e = .returned (.int .i64 (nxt xs.length back i : Nat)) ∧ Below W.heap.size W w') := fun W s hs => afterN xs back i hlt W s hs
          generalize hgn : nxt xs.length back i = ni at *
          have HGN := Lib.hid hgn
          clear hgn
          have lr := (l.below hb2).drew
          have hii : (i : Int) < (xs.length : Int) := by omega
          have hni : (ni : Int) < (xs.length : Int) := by omega
          have hne1 : ¬ g = w.heap.size + 1 + 1 := by omega
          have hne2 : ¬ b0 = w.heap.size + 1 + 1 := by omega
          have hne3 : ¬ w.heap.size + 1 + 1 = g := by omega
          have hne4 : ¬ w.heap.size + 1 + 1 = b0 := by omega
          go_wp2_with fail
          go_region_held3 (fun w' => w'.cell? ⟨g, 0, none⟩ = some (.slice (some ⟨b0, o0, none⟩) xs.length c0) ∧ w'.cell? ⟨b0, o0 + ni, none⟩ = some (.bool (kidH xs back ls kids 0 ni)) ∧ w'.cell? ⟨w.heap.size + 1, 0, none⟩ = some (.slice L xs.length d) ∧ w'.cell? ⟨w.heap.size + 1, 1, none⟩ = some (.int .i64 back)) (go_keep)
            (first | (go_at_call 65; refine (HNX.out _ _ ?_).mono ?_; (exact lr); rintro e w4 ⟨rfl, hb4⟩; have k1 := (hb4.cell (p := ⟨g, 0, none⟩) (by show g < wr.heap.size; omega)).trans k1; have k2 := (hb4.cell (p := ⟨b0, o0 + ni, none⟩) (by show b0 < wr.heap.size; omega)).trans k2; obtain ⟨p4, p5⟩ := (hCr.drew.next hb4).c2; have HO4 := Lib.hid (HO.out.drew.next hb4); have cu := (hb4.cell (p := ⟨w.heap.size + 1 + 1, i, none⟩) (by show w.heap.size + 1 + 1 < wr.heap.size; omega)).trans cu; have fu := HO4.out.frozen i))
          go_wp2_with fail
          go_roundw
          case rel => exact ⟨i + 1, _, by omega, by go_num, HO4.out.set_ _ _, HFL.out.to hlt (by rw [HGN.out]), gb_set (gb_below (gb_drew hgb) hb4) _ _, by have z4 := hb4.size; simp at z4; repeat (first | with_reducible exact Below.refl _ _ | with_reducible refine Below.setCell ?_ (by first | omega | (simp <;> omega)) _ | with_reducible refine Below.drew ?_ | with_reducible refine below_drewN ?_ _ | with_reducible refine Below.alloc ?_ (by first | omega | (simp <;> omega)) _ | with_reducible refine Below.trans ?_ (Below.mono (by assumption) (by first | omega | (simp <;> omega))))⟩
          case measure => simp [intOf]; omega
        · have hin : i = xs.length := by omega
          subst hin
          go_wp2_with fail
          go_ret
          refine ⟨_, rfl, ?_, ?_⟩
          · have e : holdL xs.length back (labAt xs ls) ⟨6, q, kids⟩ = (List.range xs.length).map fun k => kidH xs back ls kids 0 (nxt xs.length back k) := by
              unfold holdL
              rw [Fm.hold_eq]
              rfl
            rw [e]
            exact HFL.out.all HO.out (by omega) (by omega)
          · exact hb2

end Go.Proofs.Ytagnfckihdlhpaa

/-
  What the reference's l31Places computes at the kinds 4 and 5.
-/
namespace Go.Proofs.Ytagnfckihdlhpaa
open Go.RowKit

set_option maxRecDepth 100000 in
set_option maxHeartbeats 4000000 in
theorem l31Places_4 (xs : List Int) (back : Nat) (ls : List Int) (hl : LassoOK xs back ls) (q : Int) (kids : List Fm) (hk : kids.length = 2) (hkok : ∀ x ∈ kids, x.ok = true) (ih : ∀ x ∈ kids, PlacesG xs back ls x) (_hq0 : 0 ≤ q) (_hq7 : q ≤ 7) (w : World) (v s lv : Value)
    (h : At w Any (forms kids) v) (l : At w Any (ints xs) s) (m : At w Any (ints ls) lv) :
    Calls Try.prog 62 #[.agg #[.int .i64 4, .int .i64 q, v], .agg #[s, .int .i64 back], lv] w fun e w' => ∃ v', e = .returned v' ∧ At w' (From w.heap.size) (bools (holdL xs.length back (labAt xs ls) ⟨4, q, kids⟩)) v' ∧ Below w.heap.size w w' := by
  obtain ⟨A, c, rfl, hn, hc⟩ := forms_slice h
  obtain ⟨L, d, rfl, hnl, hcl⟩ := ints_slice l
  obtain ⟨M, e, rfl, hnm, hcm⟩ := ints_slice m
  have hB0 := (Blk.new w 38 #[.int .i64 4, .int .i64 q, .slice A kids.length c]).alloc (.cells #[.slice L xs.length d, .int .i64 back] 27)
  have hC0 := Blk.new (w.alloc (.cells #[.int .i64 4, .int .i64 q, .slice A kids.length c] 38)) 27 #[.slice L xs.length d, .int .i64 back]
  rw [World.size_alloc] at hC0
  have hO0 := Blk.new ((w.alloc (.cells #[.int .i64 4, .int .i64 q, .slice A kids.length c] 38)).alloc (.cells #[.slice L xs.length d, .int .i64 back] 27)) 4 (madeCells #[.bool false] xs.length)
  rw [World.size_alloc, World.size_alloc] at hO0
  have hks : kids.length ≤ 2 := by omega
  have hxl := hl.le
  have hmk := run_make_row' (P := Try.prog) 89 4 _ 1 Try.underlying89 Try.infoBool rfl .i64 .i64 xs.length (by omega) (by omega)
  have IH := Lib.hid ih
  have HK := Lib.hid hkok
  have HKL := Lib.hid hk
  have HO0 := Lib.hid hO0
  clear ih hkok hk hO0
  go_enter Try.func62, Try.ntmps62
  go_wp2_with fail
  go_loopw [9, 10] (fun kv t wr => ∃ j : Nat, j ≤ kids.length ∧ t = .int .i64 j ∧ KidRow wr (w.heap.size + 1 + 1 + 1) kv j (kids.map (holdL xs.length back (labAt xs ls))) ∧ w.heap.size + 1 + 1 + 1 ≤ wr.heap.size ∧
      Blk wr w.heap.size 38 #[.int .i64 4, .int .i64 q, .slice A kids.length c] ∧ Blk wr (w.heap.size + 1) 27 #[.slice L xs.length d, .int .i64 back] ∧ Blk wr (w.heap.size + 1 + 1) 4 (madeCells #[.bool false] xs.length) ∧ Below w.heap.size w wr) (fun _ t _ => kids.length - (intOf t).toNat)
  case atStart =>
    refine ⟨0, Nat.zero_le _, rfl, KidRow.none_ _ (Nat.le_refl _) ?_ rfl, by simp, (hB0.alloc _).alloc _, (hC0.alloc _).alloc _, HO0.out.alloc _, by repeat (first | with_reducible exact Below.refl _ _ | with_reducible refine Below.setCell ?_ (by first | omega | (simp <;> omega)) _ | with_reducible refine Below.drew ?_ | with_reducible refine below_drewN ?_ _ | with_reducible refine Below.alloc ?_ (by first | omega | (simp <;> omega)) _ | with_reducible refine Below.trans ?_ (Below.mono (by assumption) (by first | omega | (simp <;> omega))))⟩
    have := Blk.new (((w.alloc (.cells #[.int .i64 4, .int .i64 q, .slice A kids.length c] 38)).alloc (.cells #[.slice L xs.length d, .int .i64 back] 27)).alloc (.cells (madeCells #[.bool false] xs.length) 4)) 89 #[]
    rwa [World.size_alloc, World.size_alloc, World.size_alloc] at this
  case round =>
    obtain ⟨j, hj, rfl, hkr, hsz, hB, hC, hOO, hb⟩ := hrel
    obtain ⟨kv, rfl⟩ : ∃ kv : Value, kv = u9 := ⟨_, rfl⟩
    have HKR := Lib.hid hkr
    have HOO := Lib.hid hOO
    clear hkr hmk HO0 hOO hB0 hC0
    by_cases hlt : j < kids.length
    · obtain ⟨b, off, f, u, rfl, _, hlb, kc1, kc2, kc3, hu, HX, _⟩ := forms_get h hlt
      obtain ⟨Au, cu, rfl, hnu, hcu⟩ := forms_slice hu
      have hmem := List.mem_of_getElem? HX.out
      have hc1 := (hb.cell (p := ⟨b, off + j * 3, none⟩) hlb).trans kc1
      have hc2 := (hb.cell (p := ⟨b, off + j * 3 + 1, none⟩) hlb).trans kc2
      have hc3 := (hb.cell (p := ⟨b, off + j * 3 + 2, none⟩) hlb).trans kc3
      obtain ⟨q1, q2, q3⟩ := hB.c3
      obtain ⟨q4, q5⟩ := hC.c2
      have hu1 := (hu.below hb).drew
      have l1 := (l.below hb).drew
      have m1 := (m.below hb).drew
      have hij : (j : Int) < (kids.length : Int) := by omega
      obtain ⟨i0, hi, hz0, hz1, hz2⟩ := info_parts Try.infoBools
      go_wp2_with fail
      go_region_held3 (fun w' => w'.cell? ⟨w.heap.size, 2, none⟩ = some (.slice (some ⟨b, off, none⟩) kids.length c) ∧ w'.cell? ⟨w.heap.size + 1, 0, none⟩ = some (.slice L xs.length d) ∧ w'.cell? ⟨w.heap.size + 1, 1, none⟩ = some (.int .i64 back) ∧ w'.cell? ⟨b, off + j * 3, none⟩ = some (.int .i64 f.kind) ∧ w'.cell? ⟨b, off + j * 3 + 1, none⟩ = some (.int .i64 f.prop) ∧ w'.cell? ⟨b, off + j * 3 + 2, none⟩ = some (.slice Au f.kids.length cu)) (go_keep)
        (first | (go_at_call 62; refine (IH.out f hmem _ _ _ _ ?_ ?_ ?_ (HK.out f hmem)).mono ?_; (exact hu1); (exact l1); (exact m1); rintro e w1 ⟨v', rfl, ha, hb1⟩; obtain ⟨A', c', rfl, hn', hc'⟩ := bools_slice ha; have z1 := hb1.size; simp at z1; obtain ⟨b1, b2⟩ := bcell hb1; have y1 := ((hB.drew.next hb1).alloc (.cells #[.slice A' (holdL xs.length back (labAt xs ls) f).length c'] 89)).c3; have y2 := ((hC.drew.next hb1).alloc (.cells #[.slice A' (holdL xs.length back (labAt xs ls) f).length c'] 89)).c2; obtain ⟨y11, y12, y13⟩ := y1; obtain ⟨y21, y22⟩ := y2; obtain ⟨y31, y32, y33⟩ := (hB.drew.next hb1).c3; obtain ⟨y41, y42⟩ := (hC.drew.next hb1).c2; have x1 := (hb1.cell (p := ⟨b, off + j * 3, none⟩) (by simp; omega)).trans hc1; have x2 := (hb1.cell (p := ⟨b, off + j * 3 + 1, none⟩) (by simp; omega)).trans hc2; have x3 := (hb1.cell (p := ⟨b, off + j * 3 + 2, none⟩) (by simp; omega)).trans hc3; clear b1 b2; have xa1 := (World.cell?_alloc_lt w1 (.cells #[.slice A' (holdL xs.length back (labAt xs ls) f).length c'] 89) ⟨b, off + j * 3, none⟩ (by show b < w1.heap.size; omega)).trans x1; have xa2 := (World.cell?_alloc_lt w1 (.cells #[.slice A' (holdL xs.length back (labAt xs ls) f).length c'] 89) ⟨b, off + j * 3 + 1, none⟩ (by show b < w1.heap.size; omega)).trans x2; have xa3 := (World.cell?_alloc_lt w1 (.cells #[.slice A' (holdL xs.length back (labAt xs ls) f).length c'] 89) ⟨b, off + j * 3 + 2, none⟩ (by show b < w1.heap.size; omega)).trans x3; have HKR1 := Lib.hid (((HKR.out.below ((Below.refl _ _).drew)).below hb1).below ((Below.refl w1.heap.size w1).alloc (Nat.le_refl _) (.cells #[.slice A' (holdL xs.length back (labAt xs ls) f).length c'] 89))); obtain ⟨vs, hown, hvl, hvs⟩ := HKR1.out; have HOW := Lib.hid hown; have HNW := Lib.hid (World.news_of_block (heap_alloc_new w1 (.cells #[.slice A' (holdL xs.length back (labAt xs ls) f).length c'] 89))); clear hown hvs) | (refine step_append_lies _ (by rfl) _ _ _ (by rfl) (w.heap.size + 1 + 1 + 1) 89 i0 (.slice none 0 0) 1 24 Try.underlying107 hi hz0 hz1 hz2 rfl (by omega) kv j vs (by rfl) HOW.out ⟨w1.heap.size, 0, none⟩ 1 1 [.slice A' (holdL xs.length back (labAt xs ls) f).length c'] (by rfl) rfl HNW.out (by simp [Value.oneCell']) (by omega) (by unfold maxLen; omega) (by omega) (by simp; omega) (w1.heap.size + 1) (World.size_alloc _ _) ?_; intro g cap w3 hown3 hgrow3 hat3 hlt3; have HR := Lib.hid ((HKR.out.below ((Below.refl _ _).drew)).round (by show _ ≤ wr.heap.size; omega) hb1 ha (by simp [HX.out]) vs HOW.out hown3 hgrow3 hat3); obtain ⟨y51, y52, y53⟩ := (HR.out.2.2 _ _ _ (by omega) hB.drew).c3; obtain ⟨y61, y62⟩ := (HR.out.2.2 _ _ _ (by omega) hC.drew).c2; have x1 := (HR.out.2.1.cell (p := ⟨b, off + j * 3, none⟩) (by show b < _; omega)).trans hc1; have x2 := (HR.out.2.1.cell (p := ⟨b, off + j * 3 + 1, none⟩) (by show b < _; omega)).trans hc2; have x3 := (HR.out.2.1.cell (p := ⟨b, off + j * 3 + 2, none⟩) (by show b < _; omega)).trans hc3))
      go_wp2_with fail
      go_roundw
      case rel =>
        obtain ⟨r1, r2, r3⟩ := HR.out
        have z3 := r2.size
        simp at z3
        exact ⟨j + 1, by omega, by go_num, r1, by omega, r3 _ _ _ (by omega) hB.drew, r3 _ _ _ (by omega) hC.drew, r3 _ _ _ (by omega) HOO.out.drew, by repeat (first | with_reducible exact Below.refl _ _ | with_reducible refine Below.setCell ?_ (by first | omega | (simp <;> omega)) _ | with_reducible refine Below.drew ?_ | with_reducible refine below_drewN ?_ _ | with_reducible refine Below.alloc ?_ (by first | omega | (simp <;> omega)) _ | with_reducible refine Below.trans ?_ (Below.mono (by assumption) (by first | omega | (simp <;> omega))))⟩
      case measure => simp [intOf]; omega
    · have hjk : j = kids.length := by omega
      subst hjk
      obtain ⟨wo, rfl⟩ : ∃ wo : World, wo = wr := ⟨_, rfl⟩
      obtain ⟨q1, q2, q3⟩ := hB.c3
      have hpos := hl.pos
      have hbk := hl.back
      clear hlt hj
      go_wp2_with fail
      go_loopw [11] (fun t w2 => ∃ (i : Nat) (cs : Array Value), i ≤ xs.length ∧ t = .int .i64 i ∧ Blk w2 (w.heap.size + 1 + 1) 4 cs ∧ Filled cs xs.length i (fun k => (kidH xs back ls kids 0 k && kidH xs back ls kids 1 k)) ∧ wo.grownBy w2 (some (w.heap.size + 1 + 1)) ∧ Below w.heap.size w w2) (fun t _ => xs.length - (intOf t).toNat)
      case atStart => exact ⟨0, _, Nat.zero_le _, rfl, HOO.out, Filled.start _ _, World.grownBy.refl _ _, hb⟩
      case round =>
        obtain ⟨i, cs, hi, rfl, hO, hfl, hgb, hb2⟩ := hrel
        have HO := Lib.hid hO
        have HFL := Lib.hid hfl
        have hBr := hB.grown hgb (fun e => by injection e with e; omega)
        have hCr := hC.grown hgb (fun e => by injection e with e; omega)
        obtain ⟨p1, p2, p3⟩ := hBr.c3
        obtain ⟨p4, p5⟩ := hCr.c2
        have HKK : Hid (∀ x, w.heap.size + 1 + 1 + 1 ≤ x → x < wo.heap.size → wr.heap[x]? = wo.heap[x]?) := fun x h1 h2 => hgb.block x h2 (by simp; omega)
        have zr := hgb.size
        clear hO hfl
        by_cases hlt : i < xs.length
        · obtain ⟨u, hu⟩ := HFL.out.at_ hlt
          have cu : wr.cell? ⟨w.heap.size + 1 + 1, i, none⟩ = some u := (HO.out.cell i).trans hu
          have fu := HO.out.frozen i
          clear hu
          have hj1 : 0 < kids.length := by rw [HKL.out]; omega
          have hj2 : 1 < kids.length := by rw [HKL.out]; omega
          obtain ⟨g, cap, b0, o0, c0, rfl, hg0, hg, hb0, hb0', k1, hc0, k2⟩ := HKR.out.cellS HKK.out hj1 hlt
          obtain ⟨g', cap', b1, o1, c1, eg, hg1, hg', hb1, hb1', k3, hc1, k4⟩ := HKR.out.cellS HKK.out hj2 hlt
          injection eg with eg1 eg2 eg3
          injection eg1 with eg1
          injection eg1 with eg1
          subst eg1 eg3
          obtain ⟨x0, hx0⟩ : ∃ x0, x0 = kidH xs back ls kids 0 i := ⟨_, rfl⟩
          obtain ⟨x1, hx1⟩ : ∃ x1, x1 = kidH xs back ls kids 1 i := ⟨_, rfl⟩
          rw [← hx0] at k2
          rw [← hx1] at k4
          have HX0 := Lib.hid hx0
          have HX1 := Lib.hid hx1
          clear hx0 hx1 eg2
          cases x0
          · go_wp2_with fail
            go_roundw
            case rel => exact ⟨i + 1, _, by omega, by go_num, HO.out.set_ _ _, HFL.out.to hlt (by rw [← HX0.out, ← HX1.out]; simp), gb_set hgb _ _, by repeat (first | with_reducible exact Below.refl _ _ | with_reducible refine Below.setCell ?_ (by first | omega | (simp <;> omega)) _ | with_reducible refine Below.drew ?_ | with_reducible refine below_drewN ?_ _ | with_reducible refine Below.alloc ?_ (by first | omega | (simp <;> omega)) _ | with_reducible refine Below.trans ?_ (Below.mono (by assumption) (by first | omega | (simp <;> omega))))⟩
            case measure => simp [intOf]; omega
          · go_wp2_with fail
            go_roundw
            case rel => exact ⟨i + 1, _, by omega, by go_num, HO.out.set_ _ _, HFL.out.to hlt (by rw [← HX0.out, ← HX1.out]; simp), gb_set hgb _ _, by repeat (first | with_reducible exact Below.refl _ _ | with_reducible refine Below.setCell ?_ (by first | omega | (simp <;> omega)) _ | with_reducible refine Below.drew ?_ | with_reducible refine below_drewN ?_ _ | with_reducible refine Below.alloc ?_ (by first | omega | (simp <;> omega)) _ | with_reducible refine Below.trans ?_ (Below.mono (by assumption) (by first | omega | (simp <;> omega))))⟩
            case measure => simp [intOf]; omega
        · have hin : i = xs.length := by omega
          subst hin
          go_wp2_with fail
          go_ret
          refine ⟨_, rfl, ?_, ?_⟩
          · have e : holdL xs.length back (labAt xs ls) ⟨4, q, kids⟩ = (List.range xs.length).map fun k => (kidH xs back ls kids 0 k && kidH xs back ls kids 1 k) := by
              unfold holdL
              rw [Fm.hold_eq]
              rfl
            rw [e]
            exact HFL.out.all HO.out (by omega) (by omega)
          · exact hb2

set_option maxRecDepth 100000 in
set_option maxHeartbeats 4000000 in
theorem l31Places_5 (xs : List Int) (back : Nat) (ls : List Int) (hl : LassoOK xs back ls) (q : Int) (kids : List Fm) (hk : kids.length = 2) (hkok : ∀ x ∈ kids, x.ok = true) (ih : ∀ x ∈ kids, PlacesG xs back ls x) (_hq0 : 0 ≤ q) (_hq7 : q ≤ 7) (w : World) (v s lv : Value)
    (h : At w Any (forms kids) v) (l : At w Any (ints xs) s) (m : At w Any (ints ls) lv) :
    Calls Try.prog 62 #[.agg #[.int .i64 5, .int .i64 q, v], .agg #[s, .int .i64 back], lv] w fun e w' => ∃ v', e = .returned v' ∧ At w' (From w.heap.size) (bools (holdL xs.length back (labAt xs ls) ⟨5, q, kids⟩)) v' ∧ Below w.heap.size w w' := by
  obtain ⟨A, c, rfl, hn, hc⟩ := forms_slice h
  obtain ⟨L, d, rfl, hnl, hcl⟩ := ints_slice l
  obtain ⟨M, e, rfl, hnm, hcm⟩ := ints_slice m
  have hB0 := (Blk.new w 38 #[.int .i64 5, .int .i64 q, .slice A kids.length c]).alloc (.cells #[.slice L xs.length d, .int .i64 back] 27)
  have hC0 := Blk.new (w.alloc (.cells #[.int .i64 5, .int .i64 q, .slice A kids.length c] 38)) 27 #[.slice L xs.length d, .int .i64 back]
  rw [World.size_alloc] at hC0
  have hO0 := Blk.new ((w.alloc (.cells #[.int .i64 5, .int .i64 q, .slice A kids.length c] 38)).alloc (.cells #[.slice L xs.length d, .int .i64 back] 27)) 4 (madeCells #[.bool false] xs.length)
  rw [World.size_alloc, World.size_alloc] at hO0
  have hks : kids.length ≤ 2 := by omega
  have hxl := hl.le
  have hmk := run_make_row' (P := Try.prog) 89 4 _ 1 Try.underlying89 Try.infoBool rfl .i64 .i64 xs.length (by omega) (by omega)
  have IH := Lib.hid ih
  have HK := Lib.hid hkok
  have HKL := Lib.hid hk
  have HO0 := Lib.hid hO0
  clear ih hkok hk hO0
  go_enter Try.func62, Try.ntmps62
  go_wp2_with fail
  go_loopw [9, 10] (fun kv t wr => ∃ j : Nat, j ≤ kids.length ∧ t = .int .i64 j ∧ KidRow wr (w.heap.size + 1 + 1 + 1) kv j (kids.map (holdL xs.length back (labAt xs ls))) ∧ w.heap.size + 1 + 1 + 1 ≤ wr.heap.size ∧
      Blk wr w.heap.size 38 #[.int .i64 5, .int .i64 q, .slice A kids.length c] ∧ Blk wr (w.heap.size + 1) 27 #[.slice L xs.length d, .int .i64 back] ∧ Blk wr (w.heap.size + 1 + 1) 4 (madeCells #[.bool false] xs.length) ∧ Below w.heap.size w wr) (fun _ t _ => kids.length - (intOf t).toNat)
  case atStart =>
    refine ⟨0, Nat.zero_le _, rfl, KidRow.none_ _ (Nat.le_refl _) ?_ rfl, by simp, (hB0.alloc _).alloc _, (hC0.alloc _).alloc _, HO0.out.alloc _, by repeat (first | with_reducible exact Below.refl _ _ | with_reducible refine Below.setCell ?_ (by first | omega | (simp <;> omega)) _ | with_reducible refine Below.drew ?_ | with_reducible refine below_drewN ?_ _ | with_reducible refine Below.alloc ?_ (by first | omega | (simp <;> omega)) _ | with_reducible refine Below.trans ?_ (Below.mono (by assumption) (by first | omega | (simp <;> omega))))⟩
    have := Blk.new (((w.alloc (.cells #[.int .i64 5, .int .i64 q, .slice A kids.length c] 38)).alloc (.cells #[.slice L xs.length d, .int .i64 back] 27)).alloc (.cells (madeCells #[.bool false] xs.length) 4)) 89 #[]
    rwa [World.size_alloc, World.size_alloc, World.size_alloc] at this
  case round =>
    obtain ⟨j, hj, rfl, hkr, hsz, hB, hC, hOO, hb⟩ := hrel
    obtain ⟨kv, rfl⟩ : ∃ kv : Value, kv = u9 := ⟨_, rfl⟩
    have HKR := Lib.hid hkr
    have HOO := Lib.hid hOO
    clear hkr hmk HO0 hOO hB0 hC0
    by_cases hlt : j < kids.length
    · obtain ⟨b, off, f, u, rfl, _, hlb, kc1, kc2, kc3, hu, HX, _⟩ := forms_get h hlt
      obtain ⟨Au, cu, rfl, hnu, hcu⟩ := forms_slice hu
      have hmem := List.mem_of_getElem? HX.out
      have hc1 := (hb.cell (p := ⟨b, off + j * 3, none⟩) hlb).trans kc1
      have hc2 := (hb.cell (p := ⟨b, off + j * 3 + 1, none⟩) hlb).trans kc2
      have hc3 := (hb.cell (p := ⟨b, off + j * 3 + 2, none⟩) hlb).trans kc3
      obtain ⟨q1, q2, q3⟩ := hB.c3
      obtain ⟨q4, q5⟩ := hC.c2
      have hu1 := (hu.below hb).drew
      have l1 := (l.below hb).drew
      have m1 := (m.below hb).drew
      have hij : (j : Int) < (kids.length : Int) := by omega
      obtain ⟨i0, hi, hz0, hz1, hz2⟩ := info_parts Try.infoBools
      go_wp2_with fail
      go_region_held3 (fun w' => w'.cell? ⟨w.heap.size, 2, none⟩ = some (.slice (some ⟨b, off, none⟩) kids.length c) ∧ w'.cell? ⟨w.heap.size + 1, 0, none⟩ = some (.slice L xs.length d) ∧ w'.cell? ⟨w.heap.size + 1, 1, none⟩ = some (.int .i64 back) ∧ w'.cell? ⟨b, off + j * 3, none⟩ = some (.int .i64 f.kind) ∧ w'.cell? ⟨b, off + j * 3 + 1, none⟩ = some (.int .i64 f.prop) ∧ w'.cell? ⟨b, off + j * 3 + 2, none⟩ = some (.slice Au f.kids.length cu)) (go_keep)
        (first | (go_at_call 62; refine (IH.out f hmem _ _ _ _ ?_ ?_ ?_ (HK.out f hmem)).mono ?_; (exact hu1); (exact l1); (exact m1); rintro e w1 ⟨v', rfl, ha, hb1⟩; obtain ⟨A', c', rfl, hn', hc'⟩ := bools_slice ha; have z1 := hb1.size; simp at z1; obtain ⟨b1, b2⟩ := bcell hb1; have y1 := ((hB.drew.next hb1).alloc (.cells #[.slice A' (holdL xs.length back (labAt xs ls) f).length c'] 89)).c3; have y2 := ((hC.drew.next hb1).alloc (.cells #[.slice A' (holdL xs.length back (labAt xs ls) f).length c'] 89)).c2; obtain ⟨y11, y12, y13⟩ := y1; obtain ⟨y21, y22⟩ := y2; obtain ⟨y31, y32, y33⟩ := (hB.drew.next hb1).c3; obtain ⟨y41, y42⟩ := (hC.drew.next hb1).c2; have x1 := (hb1.cell (p := ⟨b, off + j * 3, none⟩) (by simp; omega)).trans hc1; have x2 := (hb1.cell (p := ⟨b, off + j * 3 + 1, none⟩) (by simp; omega)).trans hc2; have x3 := (hb1.cell (p := ⟨b, off + j * 3 + 2, none⟩) (by simp; omega)).trans hc3; clear b1 b2; have xa1 := (World.cell?_alloc_lt w1 (.cells #[.slice A' (holdL xs.length back (labAt xs ls) f).length c'] 89) ⟨b, off + j * 3, none⟩ (by show b < w1.heap.size; omega)).trans x1; have xa2 := (World.cell?_alloc_lt w1 (.cells #[.slice A' (holdL xs.length back (labAt xs ls) f).length c'] 89) ⟨b, off + j * 3 + 1, none⟩ (by show b < w1.heap.size; omega)).trans x2; have xa3 := (World.cell?_alloc_lt w1 (.cells #[.slice A' (holdL xs.length back (labAt xs ls) f).length c'] 89) ⟨b, off + j * 3 + 2, none⟩ (by show b < w1.heap.size; omega)).trans x3; have HKR1 := Lib.hid (((HKR.out.below ((Below.refl _ _).drew)).below hb1).below ((Below.refl w1.heap.size w1).alloc (Nat.le_refl _) (.cells #[.slice A' (holdL xs.length back (labAt xs ls) f).length c'] 89))); obtain ⟨vs, hown, hvl, hvs⟩ := HKR1.out; have HOW := Lib.hid hown; have HNW := Lib.hid (World.news_of_block (heap_alloc_new w1 (.cells #[.slice A' (holdL xs.length back (labAt xs ls) f).length c'] 89))); clear hown hvs) | (refine step_append_lies _ (by rfl) _ _ _ (by rfl) (w.heap.size + 1 + 1 + 1) 89 i0 (.slice none 0 0) 1 24 Try.underlying107 hi hz0 hz1 hz2 rfl (by omega) kv j vs (by rfl) HOW.out ⟨w1.heap.size, 0, none⟩ 1 1 [.slice A' (holdL xs.length back (labAt xs ls) f).length c'] (by rfl) rfl HNW.out (by simp [Value.oneCell']) (by omega) (by unfold maxLen; omega) (by omega) (by simp; omega) (w1.heap.size + 1) (World.size_alloc _ _) ?_; intro g cap w3 hown3 hgrow3 hat3 hlt3; have HR := Lib.hid ((HKR.out.below ((Below.refl _ _).drew)).round (by show _ ≤ wr.heap.size; omega) hb1 ha (by simp [HX.out]) vs HOW.out hown3 hgrow3 hat3); obtain ⟨y51, y52, y53⟩ := (HR.out.2.2 _ _ _ (by omega) hB.drew).c3; obtain ⟨y61, y62⟩ := (HR.out.2.2 _ _ _ (by omega) hC.drew).c2; have x1 := (HR.out.2.1.cell (p := ⟨b, off + j * 3, none⟩) (by show b < _; omega)).trans hc1; have x2 := (HR.out.2.1.cell (p := ⟨b, off + j * 3 + 1, none⟩) (by show b < _; omega)).trans hc2; have x3 := (HR.out.2.1.cell (p := ⟨b, off + j * 3 + 2, none⟩) (by show b < _; omega)).trans hc3))
      go_wp2_with fail
      go_roundw
      case rel =>
        obtain ⟨r1, r2, r3⟩ := HR.out
        have z3 := r2.size
        simp at z3
        exact ⟨j + 1, by omega, by go_num, r1, by omega, r3 _ _ _ (by omega) hB.drew, r3 _ _ _ (by omega) hC.drew, r3 _ _ _ (by omega) HOO.out.drew, by repeat (first | with_reducible exact Below.refl _ _ | with_reducible refine Below.setCell ?_ (by first | omega | (simp <;> omega)) _ | with_reducible refine Below.drew ?_ | with_reducible refine below_drewN ?_ _ | with_reducible refine Below.alloc ?_ (by first | omega | (simp <;> omega)) _ | with_reducible refine Below.trans ?_ (Below.mono (by assumption) (by first | omega | (simp <;> omega))))⟩
      case measure => simp [intOf]; omega
    · have hjk : j = kids.length := by omega
      subst hjk
      obtain ⟨wo, rfl⟩ : ∃ wo : World, wo = wr := ⟨_, rfl⟩
      obtain ⟨q1, q2, q3⟩ := hB.c3
      have hpos := hl.pos
      have hbk := hl.back
      clear hlt hj
      go_wp2_with fail
      go_loopw [11] (fun t w2 => ∃ (i : Nat) (cs : Array Value), i ≤ xs.length ∧ t = .int .i64 i ∧ Blk w2 (w.heap.size + 1 + 1) 4 cs ∧ Filled cs xs.length i (fun k => Bool.or (kidH xs back ls kids 0 k) (kidH xs back ls kids 1 k)) ∧ wo.grownBy w2 (some (w.heap.size + 1 + 1)) ∧ Below w.heap.size w w2) (fun t _ => xs.length - (intOf t).toNat)
      case atStart => exact ⟨0, _, Nat.zero_le _, rfl, HOO.out, Filled.start _ _, World.grownBy.refl _ _, hb⟩
      case round =>
        obtain ⟨i, cs, hi, rfl, hO, hfl, hgb, hb2⟩ := hrel
        have HO := Lib.hid hO
        have HFL := Lib.hid hfl
        have hBr := hB.grown hgb (fun e => by injection e with e; omega)
        have hCr := hC.grown hgb (fun e => by injection e with e; omega)
        obtain ⟨p1, p2, p3⟩ := hBr.c3
        obtain ⟨p4, p5⟩ := hCr.c2
        have HKK : Hid (∀ x, w.heap.size + 1 + 1 + 1 ≤ x → x < wo.heap.size → wr.heap[x]? = wo.heap[x]?) := fun x h1 h2 => hgb.block x h2 (by simp; omega)
        have zr := hgb.size
        clear hO hfl
        by_cases hlt : i < xs.length
        · obtain ⟨u, hu⟩ := HFL.out.at_ hlt
          have cu : wr.cell? ⟨w.heap.size + 1 + 1, i, none⟩ = some u := (HO.out.cell i).trans hu
          have fu := HO.out.frozen i
          clear hu
          have hj1 : 0 < kids.length := by rw [HKL.out]; omega
          have hj2 : 1 < kids.length := by rw [HKL.out]; omega
          obtain ⟨g, cap, b0, o0, c0, rfl, hg0, hg, hb0, hb0', k1, hc0, k2⟩ := HKR.out.cellS HKK.out hj1 hlt
          obtain ⟨g', cap', b1, o1, c1, eg, hg1, hg', hb1, hb1', k3, hc1, k4⟩ := HKR.out.cellS HKK.out hj2 hlt
          injection eg with eg1 eg2 eg3
          injection eg1 with eg1
          injection eg1 with eg1
          subst eg1 eg3
          obtain ⟨x0, hx0⟩ : ∃ x0, x0 = kidH xs back ls kids 0 i := ⟨_, rfl⟩
          obtain ⟨x1, hx1⟩ : ∃ x1, x1 = kidH xs back ls kids 1 i := ⟨_, rfl⟩
          rw [← hx0] at k2
          rw [← hx1] at k4
          have HX0 := Lib.hid hx0
          have HX1 := Lib.hid hx1
          clear hx0 hx1 eg2
          cases x0
          · go_wp2_with fail
            go_roundw
            case rel => exact ⟨i + 1, _, by omega, by go_num, HO.out.set_ _ _, HFL.out.to hlt (by rw [← HX0.out, ← HX1.out]; simp), gb_set hgb _ _, by repeat (first | with_reducible exact Below.refl _ _ | with_reducible refine Below.setCell ?_ (by first | omega | (simp <;> omega)) _ | with_reducible refine Below.drew ?_ | with_reducible refine below_drewN ?_ _ | with_reducible refine Below.alloc ?_ (by first | omega | (simp <;> omega)) _ | with_reducible refine Below.trans ?_ (Below.mono (by assumption) (by first | omega | (simp <;> omega))))⟩
            case measure => simp [intOf]; omega
          · go_wp2_with fail
            go_roundw
            case rel => exact ⟨i + 1, _, by omega, by go_num, HO.out.set_ _ _, HFL.out.to hlt (by rw [← HX0.out, ← HX1.out]; simp), gb_set hgb _ _, by repeat (first | with_reducible exact Below.refl _ _ | with_reducible refine Below.setCell ?_ (by first | omega | (simp <;> omega)) _ | with_reducible refine Below.drew ?_ | with_reducible refine below_drewN ?_ _ | with_reducible refine Below.alloc ?_ (by first | omega | (simp <;> omega)) _ | with_reducible refine Below.trans ?_ (Below.mono (by assumption) (by first | omega | (simp <;> omega))))⟩
            case measure => simp [intOf]; omega
        · have hin : i = xs.length := by omega
          subst hin
          go_wp2_with fail
          go_ret
          refine ⟨_, rfl, ?_, ?_⟩
          · have e : holdL xs.length back (labAt xs ls) ⟨5, q, kids⟩ = (List.range xs.length).map fun k => Bool.or (kidH xs back ls kids 0 k) (kidH xs back ls kids 1 k) := by
              unfold holdL
              rw [Fm.hold_eq]
              rfl
            rw [e]
            exact HFL.out.all HO.out (by omega) (by omega)
          · exact hb2

end Go.Proofs.Ytagnfckihdlhpaa

/-
  What the reference's l31Places computes at kind 7.
-/
namespace Go.Proofs.Ytagnfckihdlhpaa
open Go.RowKit

/-- What is known while until is looked for: k places have been passed, p is the next one, o what has been found. -/
def Seek (n back : Nat) (a b : Nat → Bool) (i k p : Nat) (o : Bool) : Prop :=
  p < n ∧ k ≤ n + 1 ∧ (o = true → untilR n back a b n i = true) ∧ (o = false → untilR n back a b n i = if k ≤ n then untilR n back a b (n - k) p else false)

theorem Seek.start {n back : Nat} {a b : Nat → Bool} {i : Nat} (hi : i < n) : Seek n back a b i 0 i false := ⟨hi, by omega, (fun h => by cases h), (fun _ => by rw [if_pos (by omega)]; rfl)⟩
theorem Seek.stop {n back : Nat} {a b : Nat → Bool} {i k p : Nat} (h : Seek n back a b i k p false) (hk : k ≤ n) (ha : a p = false) : untilR n back a b n i = b p := by
  rw [h.2.2.2 rfl, if_pos hk]
  cases n - k with
  | zero => rfl
  | succ d => simp [untilR, ha]
theorem Seek.next {n back : Nat} {a b : Nat → Bool} {i k p : Nat} (h : Seek n back a b i k p false) (hb : back < n) (hk : k ≤ n) (ha : a p = true) : Seek n back a b i (k + 1) (nxt n back p) (b p) := by
  have e := h.2.2.2 rfl
  rw [if_pos hk] at e
  refine ⟨nxt_lt hb, by omega, fun hbp => ?_, fun hbp => ?_⟩
  · rw [e]
    cases n - k with
    | zero => exact hbp
    | succ d => simp [untilR, hbp]
  · rw [e]
    by_cases h1 : k + 1 ≤ n
    · rw [if_pos h1]
      have : n - k = (n - (k + 1)) + 1 := by omega
      rw [this]
      simp [untilR, hbp, ha]
    · rw [if_neg h1]
      have : n - k = 0 := by omega
      rw [this]
      exact hbp
theorem Seek.found {n back : Nat} {a b : Nat → Bool} {i k p : Nat} (h : Seek n back a b i k p true) : untilR n back a b n i = true := h.2.2.1 rfl
theorem Seek.none_ {n back : Nat} {a b : Nat → Bool} {i k p : Nat} (h : Seek n back a b i k p false) (hk : ¬ k ≤ n) : untilR n back a b n i = false := by rw [h.2.2.2 rfl, if_neg hk]

/-- All cells but the one at i are filled as they were; that one holds o. -/
def FilledBut (cs : Array Value) (n i : Nat) (f : Nat → Bool) (o : Bool) : Prop := cs.size = n ∧ cs[i]? = some (.bool o) ∧ (∀ k, k < i → cs[k]? = some (.bool (f k))) ∧ ∀ k, i < k → k < n → cs[k]? = some (.bool false)
theorem Filled.but {cs : Array Value} {n i : Nat} {f : Nat → Bool} (h : Filled cs n i f) (hi : i < n) : FilledBut cs n i f false := ⟨h.1, h.2.2 i (Nat.le_refl _) hi, h.2.1, fun k h1 h2 => h.2.2 k (by omega) h2⟩
theorem FilledBut.set {cs : Array Value} {n i : Nat} {f : Nat → Bool} {o : Bool} (h : FilledBut cs n i f o) (hi : i < n) (x : Bool) : FilledBut (cs.setIfInBounds i (.bool x)) n i f x := by
  obtain ⟨h1, _, h3, h4⟩ := h
  refine ⟨by simpa using h1, by simp [h1, hi], fun k hk => ?_, fun k hk hk2 => ?_⟩
  · rw [Array.getElem?_setIfInBounds_ne (by omega)]; exact h3 k hk
  · rw [Array.getElem?_setIfInBounds_ne (by omega)]; exact h4 k hk hk2
theorem FilledBut.done {cs : Array Value} {n i : Nat} {f : Nat → Bool} {o : Bool} (h : FilledBut cs n i f o) (e : f i = o) : Filled cs n (i + 1) f := by
  obtain ⟨h1, h2, h3, h4⟩ := h
  refine ⟨h1, fun k hk => ?_, fun k hk hk2 => h4 k (by omega) hk2⟩
  by_cases ek : k = i
  · subst ek; rw [e]; exact h2
  · exact h3 k (by omega)

set_option maxRecDepth 100000 in
set_option maxHeartbeats 4000000 in
theorem l31Places_7 (xs : List Int) (back : Nat) (ls : List Int) (hl : LassoOK xs back ls) (q : Int) (kids : List Fm) (hk : kids.length = 2) (hkok : ∀ x ∈ kids, x.ok = true) (ih : ∀ x ∈ kids, PlacesG xs back ls x) (_hq0 : 0 ≤ q) (_hq7 : q ≤ 7) (w : World) (v s lv : Value)
    (h : At w Any (forms kids) v) (l : At w Any (ints xs) s) (m : At w Any (ints ls) lv) :
    Calls Try.prog 62 #[.agg #[.int .i64 7, .int .i64 q, v], .agg #[s, .int .i64 back], lv] w fun e w' => ∃ v', e = .returned v' ∧ At w' (From w.heap.size) (bools (holdL xs.length back (labAt xs ls) ⟨7, q, kids⟩)) v' ∧ Below w.heap.size w w' := by
  obtain ⟨A, c, rfl, hn, hc⟩ := forms_slice h
  obtain ⟨L, d, rfl, hnl, hcl⟩ := ints_slice l
  obtain ⟨M, e, rfl, hnm, hcm⟩ := ints_slice m
  have hB0 := (Blk.new w 38 #[.int .i64 7, .int .i64 q, .slice A kids.length c]).alloc (.cells #[.slice L xs.length d, .int .i64 back] 27)
  have hC0 := Blk.new (w.alloc (.cells #[.int .i64 7, .int .i64 q, .slice A kids.length c] 38)) 27 #[.slice L xs.length d, .int .i64 back]
  rw [World.size_alloc] at hC0
  have hO0 := Blk.new ((w.alloc (.cells #[.int .i64 7, .int .i64 q, .slice A kids.length c] 38)).alloc (.cells #[.slice L xs.length d, .int .i64 back] 27)) 4 (madeCells #[.bool false] xs.length)
  rw [World.size_alloc, World.size_alloc] at hO0
  have hks : kids.length ≤ 2 := by omega
  have hxl := hl.le
  have hmk := run_make_row' (P := Try.prog) 89 4 _ 1 Try.underlying89 Try.infoBool rfl .i64 .i64 xs.length (by omega) (by omega)
  have IH := Lib.hid ih
  have HK := Lib.hid hkok
  have HKL := Lib.hid hk
  have HO0 := Lib.hid hO0
  clear ih hkok hk hO0
  go_enter Try.func62, Try.ntmps62
  go_wp2_with fail
  go_loopw [9, 10] (fun kv t wr => ∃ j : Nat, j ≤ kids.length ∧ t = .int .i64 j ∧ KidRow wr (w.heap.size + 1 + 1 + 1) kv j (kids.map (holdL xs.length back (labAt xs ls))) ∧ w.heap.size + 1 + 1 + 1 ≤ wr.heap.size ∧
      Blk wr w.heap.size 38 #[.int .i64 7, .int .i64 q, .slice A kids.length c] ∧ Blk wr (w.heap.size + 1) 27 #[.slice L xs.length d, .int .i64 back] ∧ Blk wr (w.heap.size + 1 + 1) 4 (madeCells #[.bool false] xs.length) ∧ Below w.heap.size w wr) (fun _ t _ => kids.length - (intOf t).toNat)
  case atStart =>
    refine ⟨0, Nat.zero_le _, rfl, KidRow.none_ _ (Nat.le_refl _) ?_ rfl, by simp, (hB0.alloc _).alloc _, (hC0.alloc _).alloc _, HO0.out.alloc _, by repeat (first | with_reducible exact Below.refl _ _ | with_reducible refine Below.setCell ?_ (by first | omega | (simp <;> omega)) _ | with_reducible refine Below.drew ?_ | with_reducible refine below_drewN ?_ _ | with_reducible refine Below.alloc ?_ (by first | omega | (simp <;> omega)) _ | with_reducible refine Below.trans ?_ (Below.mono (by assumption) (by first | omega | (simp <;> omega))))⟩
    have := Blk.new (((w.alloc (.cells #[.int .i64 7, .int .i64 q, .slice A kids.length c] 38)).alloc (.cells #[.slice L xs.length d, .int .i64 back] 27)).alloc (.cells (madeCells #[.bool false] xs.length) 4)) 89 #[]
    rwa [World.size_alloc, World.size_alloc, World.size_alloc] at this
  case round =>
    obtain ⟨j, hj, rfl, hkr, hsz, hB, hC, hOO, hb⟩ := hrel
    obtain ⟨kv, rfl⟩ : ∃ kv : Value, kv = u9 := ⟨_, rfl⟩
    have HKR := Lib.hid hkr
    have HOO := Lib.hid hOO
    clear hkr hmk HO0 hOO hB0 hC0
    by_cases hlt : j < kids.length
    · obtain ⟨b, off, f, u, rfl, _, hlb, kc1, kc2, kc3, hu, HX, _⟩ := forms_get h hlt
      obtain ⟨Au, cu, rfl, hnu, hcu⟩ := forms_slice hu
      have hmem := List.mem_of_getElem? HX.out
      have hc1 := (hb.cell (p := ⟨b, off + j * 3, none⟩) hlb).trans kc1
      have hc2 := (hb.cell (p := ⟨b, off + j * 3 + 1, none⟩) hlb).trans kc2
      have hc3 := (hb.cell (p := ⟨b, off + j * 3 + 2, none⟩) hlb).trans kc3
      obtain ⟨q1, q2, q3⟩ := hB.c3
      obtain ⟨q4, q5⟩ := hC.c2
      have hu1 := (hu.below hb).drew
      have l1 := (l.below hb).drew
      have m1 := (m.below hb).drew
      have hij : (j : Int) < (kids.length : Int) := by omega
      obtain ⟨i0, hi, hz0, hz1, hz2⟩ := info_parts Try.infoBools
      go_wp2_with fail
      go_region_held3 (fun w' => w'.cell? ⟨w.heap.size, 2, none⟩ = some (.slice (some ⟨b, off, none⟩) kids.length c) ∧ w'.cell? ⟨w.heap.size + 1, 0, none⟩ = some (.slice L xs.length d) ∧ w'.cell? ⟨w.heap.size + 1, 1, none⟩ = some (.int .i64 back) ∧ w'.cell? ⟨b, off + j * 3, none⟩ = some (.int .i64 f.kind) ∧ w'.cell? ⟨b, off + j * 3 + 1, none⟩ = some (.int .i64 f.prop) ∧ w'.cell? ⟨b, off + j * 3 + 2, none⟩ = some (.slice Au f.kids.length cu)) (go_keep)
        (first | (go_at_call 62; refine (IH.out f hmem _ _ _ _ ?_ ?_ ?_ (HK.out f hmem)).mono ?_; (exact hu1); (exact l1); (exact m1); rintro e w1 ⟨v', rfl, ha, hb1⟩; obtain ⟨A', c', rfl, hn', hc'⟩ := bools_slice ha; have z1 := hb1.size; simp at z1; obtain ⟨b1, b2⟩ := bcell hb1; have y1 := ((hB.drew.next hb1).alloc (.cells #[.slice A' (holdL xs.length back (labAt xs ls) f).length c'] 89)).c3; have y2 := ((hC.drew.next hb1).alloc (.cells #[.slice A' (holdL xs.length back (labAt xs ls) f).length c'] 89)).c2; obtain ⟨y11, y12, y13⟩ := y1; obtain ⟨y21, y22⟩ := y2; obtain ⟨y31, y32, y33⟩ := (hB.drew.next hb1).c3; obtain ⟨y41, y42⟩ := (hC.drew.next hb1).c2; have x1 := (hb1.cell (p := ⟨b, off + j * 3, none⟩) (by simp; omega)).trans hc1; have x2 := (hb1.cell (p := ⟨b, off + j * 3 + 1, none⟩) (by simp; omega)).trans hc2; have x3 := (hb1.cell (p := ⟨b, off + j * 3 + 2, none⟩) (by simp; omega)).trans hc3; clear b1 b2; have xa1 := (World.cell?_alloc_lt w1 (.cells #[.slice A' (holdL xs.length back (labAt xs ls) f).length c'] 89) ⟨b, off + j * 3, none⟩ (by show b < w1.heap.size; omega)).trans x1; have xa2 := (World.cell?_alloc_lt w1 (.cells #[.slice A' (holdL xs.length back (labAt xs ls) f).length c'] 89) ⟨b, off + j * 3 + 1, none⟩ (by show b < w1.heap.size; omega)).trans x2; have xa3 := (World.cell?_alloc_lt w1 (.cells #[.slice A' (holdL xs.length back (labAt xs ls) f).length c'] 89) ⟨b, off + j * 3 + 2, none⟩ (by show b < w1.heap.size; omega)).trans x3; have HKR1 := Lib.hid (((HKR.out.below ((Below.refl _ _).drew)).below hb1).below ((Below.refl w1.heap.size w1).alloc (Nat.le_refl _) (.cells #[.slice A' (holdL xs.length back (labAt xs ls) f).length c'] 89))); obtain ⟨vs, hown, hvl, hvs⟩ := HKR1.out; have HOW := Lib.hid hown; have HNW := Lib.hid (World.news_of_block (heap_alloc_new w1 (.cells #[.slice A' (holdL xs.length back (labAt xs ls) f).length c'] 89))); clear hown hvs) | (refine step_append_lies _ (by rfl) _ _ _ (by rfl) (w.heap.size + 1 + 1 + 1) 89 i0 (.slice none 0 0) 1 24 Try.underlying107 hi hz0 hz1 hz2 rfl (by omega) kv j vs (by rfl) HOW.out ⟨w1.heap.size, 0, none⟩ 1 1 [.slice A' (holdL xs.length back (labAt xs ls) f).length c'] (by rfl) rfl HNW.out (by simp [Value.oneCell']) (by omega) (by unfold maxLen; omega) (by omega) (by simp; omega) (w1.heap.size + 1) (World.size_alloc _ _) ?_; intro g cap w3 hown3 hgrow3 hat3 hlt3; have HR := Lib.hid ((HKR.out.below ((Below.refl _ _).drew)).round (by show _ ≤ wr.heap.size; omega) hb1 ha (by simp [HX.out]) vs HOW.out hown3 hgrow3 hat3); obtain ⟨y51, y52, y53⟩ := (HR.out.2.2 _ _ _ (by omega) hB.drew).c3; obtain ⟨y61, y62⟩ := (HR.out.2.2 _ _ _ (by omega) hC.drew).c2; have x1 := (HR.out.2.1.cell (p := ⟨b, off + j * 3, none⟩) (by show b < _; omega)).trans hc1; have x2 := (HR.out.2.1.cell (p := ⟨b, off + j * 3 + 1, none⟩) (by show b < _; omega)).trans hc2; have x3 := (HR.out.2.1.cell (p := ⟨b, off + j * 3 + 2, none⟩) (by show b < _; omega)).trans hc3))
      go_wp2_with fail
      go_roundw
      case rel =>
        obtain ⟨r1, r2, r3⟩ := HR.out
        have z3 := r2.size
        simp at z3
        exact ⟨j + 1, by omega, by go_num, r1, by omega, r3 _ _ _ (by omega) hB.drew, r3 _ _ _ (by omega) hC.drew, r3 _ _ _ (by omega) HOO.out.drew, by repeat (first | with_reducible exact Below.refl _ _ | with_reducible refine Below.setCell ?_ (by first | omega | (simp <;> omega)) _ | with_reducible refine Below.drew ?_ | with_reducible refine below_drewN ?_ _ | with_reducible refine Below.alloc ?_ (by first | omega | (simp <;> omega)) _ | with_reducible refine Below.trans ?_ (Below.mono (by assumption) (by first | omega | (simp <;> omega))))⟩
      case measure => simp [intOf]; omega
    · have hjk : j = kids.length := by omega
      subst hjk
      obtain ⟨wo, rfl⟩ : ∃ wo : World, wo = wr := ⟨_, rfl⟩
      obtain ⟨q1, q2, q3⟩ := hB.c3
      have hpos := hl.pos
      have hbk := hl.back
      clear hlt hj
      go_wp2_with fail
      go_loopw [11] (fun t w2 => ∃ (i : Nat) (cs : Array Value), i ≤ xs.length ∧ t = .int .i64 i ∧ Blk w2 (w.heap.size + 1 + 1) 4 cs ∧ Filled cs xs.length i (fun k => untilR xs.length back (kidH xs back ls kids 0) (kidH xs back ls kids 1) xs.length k) ∧ wo.grownBy w2 (some (w.heap.size + 1 + 1)) ∧ Below w.heap.size w w2) (fun t _ => xs.length - (intOf t).toNat)
      case atStart => exact ⟨0, _, Nat.zero_le _, rfl, HOO.out, Filled.start _ _, World.grownBy.refl _ _, hb⟩
      case round =>
        obtain ⟨i, cs, hi, rfl, hO, hfl, hgb, hb2⟩ := hrel
        have HO := Lib.hid hO
        have HFL := Lib.hid hfl
        have hBr := hB.grown hgb (fun e => by injection e with e; omega)
        have hCr := hC.grown hgb (fun e => by injection e with e; omega)
        obtain ⟨p1, p2, p3⟩ := hBr.c3
        obtain ⟨p4, p5⟩ := hCr.c2
        have HKK : Hid (∀ x, w.heap.size + 1 + 1 + 1 ≤ x → x < wo.heap.size → wr.heap[x]? = wo.heap[x]?) := fun x h1 h2 => hgb.block x h2 (by simp; omega)
        have zr := hgb.size
        clear hO hfl
        by_cases hlt : i < xs.length
        · obtain ⟨u, hu⟩ := HFL.out.at_ hlt
          have cu : wr.cell? ⟨w.heap.size + 1 + 1, i, none⟩ = some u := (HO.out.cell i).trans hu
          have fu := HO.out.frozen i
          clear hu
          have hj1 : 0 < kids.length := by rw [HKL.out]; omega
          have hj2 : 1 < kids.length := by rw [HKL.out]; omega
          obtain ⟨g, cap, _, _, _, rfl, hg0, hg, _⟩ := HKR.out.cellS HKK.out hj1 hlt
          obtain ⟨wi, rfl⟩ : ∃ wi : World, wi = wr := ⟨_, rfl⟩
          go_wp2_with fail
          clear p1 p2 p3 p4 p5 cu fu
          go_loopw [12, 13] (fun av kv w2 => ∃ (k p : Nat) (o : Bool) (cs : Array Value), kv = .int .i64 k ∧ av = .int .i64 p ∧ Seek xs.length back (kidH xs back ls kids 0) (kidH xs back ls kids 1) i k p o ∧ Blk w2 (w.heap.size + 1 + 1) 4 cs ∧ FilledBut cs xs.length i (fun k => untilR xs.length back (kidH xs back ls kids 0) (kidH xs back ls kids 1) xs.length k) o ∧ wo.grownBy w2 (some (w.heap.size + 1 + 1)) ∧ Below w.heap.size w w2) (fun _ kv _ => xs.length + 1 - (intOf kv).toNat)
          case atStart => exact ⟨0, i, false, cs, rfl, rfl, Seek.start hlt, HO.out, HFL.out.but hlt, hgb, hb2⟩
          case round =>
            obtain ⟨k, p, o, cs2, rfl, rfl, hsk, hO2, hF2, hgb2, hb3⟩ := hrel
            have HSK := Lib.hid hsk
            have HO2 := Lib.hid hO2
            have HF2 := Lib.hid hF2
            have hp := hsk.1
            have hk1 := hsk.2.1
            have hCr2 := hC.grown hgb2 (fun e => by injection e with e; omega)
            obtain ⟨p4, p5⟩ := hCr2.c2
            have HKK2 : Hid (∀ x, w.heap.size + 1 + 1 + 1 ≤ x → x < wo.heap.size → wr.heap[x]? = wo.heap[x]?) := fun x h1 h2 => hgb2.block x h2 (by simp; omega)
            have co : wr.cell? ⟨w.heap.size + 1 + 1, i, none⟩ = some (.bool o) := (HO2.out.cell i).trans HF2.out.2.1
            have fo := HO2.out.frozen i
            have zr2 := hgb2.size
            clear hsk hO2 hF2 HO HFL
            by_cases hkn : k ≤ xs.length
            · cases o
              · obtain ⟨g', cap', b0, o0, c0, eg, _, _, hb0, hb0', k1, hc0, k2⟩ := HKR.out.cellS HKK2.out hj1 hp
                injection eg with eg1 eg2 eg3
                injection eg1 with eg1
                injection eg1 with eg1
                subst eg1 eg3
                obtain ⟨g', cap', b1, o1, c1, eg, _, _, hb1, hb1', k3, hc1, k4⟩ := HKR.out.cellS HKK2.out hj2 hp
                injection eg with eg1 eg2' eg3
                injection eg1 with eg1
                injection eg1 with eg1
                subst eg1 eg3
                clear eg2 eg2'
                have hkd : decide (k ≤ xs.length) = true := by simp; omega
                have hne1 : ¬ g = w.heap.size + 1 + 1 := by omega
                have hne2 : ¬ b0 = w.heap.size + 1 + 1 := by omega
                obtain ⟨x0, hx0⟩ : ∃ x0, x0 = kidH xs back ls kids 0 p := ⟨_, rfl⟩
                obtain ⟨x1, hx1⟩ : ∃ x1, x1 = kidH xs back ls kids 1 p := ⟨_, rfl⟩
                rw [← hx0] at k2
                rw [← hx1] at k4
                have HX0 := Lib.hid hx0
                have HX1 := Lib.hid hx1
                clear hx0 hx1
                have k1' : (wr.setCell ⟨w.heap.size + 1 + 1, i, none⟩ (.bool x1)).cell? ⟨g, 0, none⟩ = some (.slice (some ⟨b0, o0, none⟩) xs.length c0) := (World.cell?_setCell_other wr ⟨w.heap.size + 1 + 1, i, none⟩ ⟨g, 0, none⟩ _ (fun e => by injection e with e; omega)).trans k1
                have k2' : (wr.setCell ⟨w.heap.size + 1 + 1, i, none⟩ (.bool x1)).cell? ⟨b0, o0 + p, none⟩ = some (.bool x0) := (World.cell?_setCell_other wr ⟨w.heap.size + 1 + 1, i, none⟩ ⟨b0, o0 + p, none⟩ _ (fun e => by injection e with e; omega)).trans k2
                cases x0
                · go_wp2_with fail
                  go_roundw
                  case rel => exact ⟨i + 1, _, by omega, by go_num, HO2.out.set_ _ _, (HF2.out.set hlt x1).done (by rw [HSK.out.stop hkn HX0.out.symm]; exact HX1.out.symm), gb_set hgb2 _ _, by repeat (first | with_reducible exact Below.refl _ _ | with_reducible refine Below.setCell ?_ (by first | omega | (simp <;> omega)) _ | with_reducible refine Below.drew ?_ | with_reducible refine below_drewN ?_ _ | with_reducible refine Below.alloc ?_ (by first | omega | (simp <;> omega)) _ | with_reducible refine Below.trans ?_ (Below.mono (by assumption) (by first | omega | (simp <;> omega))))⟩
                  case measure => simp [intOf]; omega
                · obtain ⟨p6, p7⟩ := (hCr2.far (p := ⟨w.heap.size + 1 + 1, i, none⟩) (by simp only; omega) (.bool x1)).c2
                  have lr := ((l.old.below hb3).setCell (p := ⟨w.heap.size + 1 + 1, i, none⟩) (by simp only [Old]; omega) (.bool x1)).any
                  go_wp2_with fail
                  refine (afterN xs back p hp _ _ lr).mono ?_
                  rintro e w4 ⟨rfl, hb4⟩
                  go_wp2_with fail
                  go_roundw
                  case rel =>
                    have z4 := hb4.size
                    simp at z4
                    exact ⟨k + 1, nxt xs.length back p, x1, _, by go_num, rfl, by rw [HX1.out]; exact HSK.out.next hbk hkn HX0.out.symm, (HO2.out.set_ _ _).next hb4, HF2.out.set hlt x1, gb_below (gb_set hgb2 _ _) hb4, by repeat (first | with_reducible exact Below.refl _ _ | with_reducible refine Below.setCell ?_ (by first | omega | (simp <;> omega)) _ | with_reducible refine Below.drew ?_ | with_reducible refine below_drewN ?_ _ | with_reducible refine Below.alloc ?_ (by first | omega | (simp <;> omega)) _ | with_reducible refine Below.trans ?_ (Below.mono (by assumption) (by first | omega | (simp <;> omega))))⟩
                  case measure => simp [intOf]; omega
              · have hkd : decide (k ≤ xs.length) = true := by simp; omega
                go_wp2_with fail
                go_roundw
                case rel => exact ⟨i + 1, _, by omega, by go_num, HO2.out, HF2.out.done HSK.out.found, hgb2, hb3⟩
                case measure => simp [intOf]; omega
            · have hkd : decide (k ≤ xs.length) = false := by simp; omega
              have HE : Hid (untilR xs.length back (kidH xs back ls kids 0) (kidH xs back ls kids 1) xs.length i = o) := by
                cases o
                · exact HSK.out.none_ hkn
                · exact HSK.out.found
              go_wp2_with fail
              go_roundw
              case rel => exact ⟨i + 1, _, by omega, by go_num, HO2.out, HF2.out.done HE.out, hgb2, hb3⟩
              case measure => simp [intOf]; omega
        · have hin : i = xs.length := by omega
          subst hin
          go_wp2_with fail
          go_ret
          refine ⟨_, rfl, ?_, ?_⟩
          · have e : holdL xs.length back (labAt xs ls) ⟨7, q, kids⟩ = (List.range xs.length).map fun k => untilR xs.length back (kidH xs back ls kids 0) (kidH xs back ls kids 1) xs.length k := by
              unfold holdL
              rw [Fm.hold_eq]
              rfl
            rw [e]
            exact HFL.out.all HO.out (by omega) (by omega)
          · exact hb2

end Go.Proofs.Ytagnfckihdlhpaa

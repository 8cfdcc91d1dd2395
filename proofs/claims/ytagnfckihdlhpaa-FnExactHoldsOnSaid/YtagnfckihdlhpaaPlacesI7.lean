/-
  What the program's places computes at kind 7.
-/
import Derived.Test.YtagnfckihdlhpaaPlacesI6
namespace Go.Proofs.Ytagnfckihdlhpaa
open Go.RowKit

/-- What stands after t turns. -/
def turnV (n back : Nat) (a b : Nat → Bool) : Nat → Nat → Bool
  | 0, _ => false
  | t + 1, j => swF n a b (turnV n back a b t back) (n - 1 - j)
/-- What stands in the middle of a turn: the places from rem on are done. -/
def mixV (n back : Nat) (a b : Nat → Bool) (t rem k : Nat) : Bool := if k < rem then turnV n back a b t k else turnV n back a b (t + 1) k

theorem turn_step {n back : Nat} {a b : Nat → Bool} {t p : Nat} (hp : p < n) (hb : back < n) :
    turnV n back a b (t + 1) p = (b p || (a p && mixV n back a b t (p + 1) (nxt n back p))) := by
  by_cases h : p + 1 < n
  · have e1 : nxt n back p = p + 1 := by unfold nxt; rw [if_pos h]
    have e2 : n - 1 - p = (n - 1 - (p + 1)) + 1 := by omega
    rw [e1]
    unfold mixV
    rw [if_neg (by omega)]
    show swF n a b _ (n - 1 - p) = _
    rw [e2]
    show (b (n - 1 - (n - 1 - (p + 1) + 1)) || (a (n - 1 - (n - 1 - (p + 1) + 1)) && swF n a b _ (n - 1 - (p + 1)))) = _
    rw [show n - 1 - (n - 1 - (p + 1) + 1) = p by omega]
    rfl
  · have e1 : nxt n back p = back := by unfold nxt; rw [if_neg h]
    have e2 : n - 1 - p = 0 := by omega
    rw [e1]
    unfold mixV
    rw [if_pos (by omega)]
    show swF n a b _ (n - 1 - p) = _
    rw [e2]
    show (b (n - 1) || (a (n - 1) && turnV n back a b t back)) = _
    rw [show n - 1 = p by omega]

/-- The cells of a row in the middle of a turn. -/
def Mixed (cs : Array Value) (n : Nat) (f : Nat → Bool) : Prop := cs.size = n ∧ ∀ k, k < n → cs[k]? = some (.bool (f k))
theorem Mixed.congr {cs : Array Value} {n : Nat} {f g : Nat → Bool} (h : Mixed cs n f) (e : ∀ k, k < n → f k = g k) : Mixed cs n g := ⟨h.1, fun k hk => by rw [← e k hk]; exact h.2 k hk⟩
theorem Mixed.set {cs : Array Value} {n back : Nat} {a b : Nat → Bool} {t p : Nat} {x : Bool} (h : Mixed cs n (mixV n back a b t (p + 1))) (hp : p < n) (hx : turnV n back a b (t + 1) p = x) : Mixed (cs.setIfInBounds p (.bool x)) n (mixV n back a b t p) := by
  refine ⟨by simpa using h.1, fun k hk => ?_⟩
  by_cases e : k = p
  · subst e
    unfold mixV
    rw [if_neg (by omega), hx]
    simp [h.1, hp]
  · rw [Array.getElem?_setIfInBounds_ne (by omega), h.2 k hk]
    unfold mixV
    by_cases hk2 : k < p
    · rw [if_pos hk2, if_pos (by omega)]
    · rw [if_neg hk2, if_neg (by omega)]
theorem Mixed.all {cs : Array Value} {n : Nat} {f : Nat → Bool} {w : World} {O : Nat} {B : Nat} (h : Mixed cs n f) (hO : Blk w O 4 cs) (hB : B ≤ O) (hn : n ≤ 9223372036854775807) :
    At w (From B) (bools ((List.range n).map f)) (.slice (some ⟨O, 0, none⟩) n n) :=
  Filled.all ⟨h.1, h.2, fun k h1 h2 => by omega⟩ hO hB hn

set_option maxRecDepth 100000 in
set_option maxHeartbeats 4000000 in
theorem places_7 (xs : List Int) (back : Nat) (ls : List Int) (hl : LassoOK xs back ls) (q : Int) (kids : List Fm) (hk : kids.length = 2) (hkok : ∀ x ∈ kids, x.ok = true) (ih : ∀ x ∈ kids, PlacesF xs back ls x) (_hq0 : 0 ≤ q) (_hq7 : q ≤ 7) (w : World) (v s lv : Value)
    (h : At w Any (forms kids) v) (l : At w Any (ints xs) s) (m : At w Any (ints ls) lv) :
    Calls Try.prog 60 #[.agg #[.int .i64 7, .int .i64 q, v], .agg #[s, .int .i64 back], lv] w fun e w' => ∃ v', e = .returned v' ∧ At w' (From w.heap.size) (bools (holdL xs.length back (labAt xs ls) ⟨7, q, kids⟩)) v' ∧ Below w.heap.size w w' := by
  obtain ⟨A, c, rfl, hn, hc⟩ := forms_slice h
  obtain ⟨L, d, rfl, hnl, hcl⟩ := ints_slice l
  obtain ⟨M, e, rfl, hnm, hcm⟩ := ints_slice m
  have hB0 := (Blk.new w 38 #[.int .i64 7, .int .i64 q, .slice A kids.length c]).alloc (.cells #[.slice L xs.length d, .int .i64 back] 27)
  have hC0 := Blk.new (w.alloc (.cells #[.int .i64 7, .int .i64 q, .slice A kids.length c] 38)) 27 #[.slice L xs.length d, .int .i64 back]
  rw [World.size_alloc] at hC0
  have hks : kids.length ≤ 2 := by omega
  have hxl := hl.le
  have IH := Lib.hid ih
  have HK := Lib.hid hkok
  have HKL := Lib.hid hk
  clear ih hkok hk
  go_enter Try.func60, Try.ntmps60
  go_wp2_with fail
  go_loopw [7, 20] (fun kv t wr => ∃ j : Nat, j ≤ kids.length ∧ t = .int .i64 j ∧ KidRow wr (w.heap.size + 1 + 1) kv j (kids.map (holdL xs.length back (labAt xs ls))) ∧ w.heap.size + 1 + 1 ≤ wr.heap.size ∧
      Blk wr w.heap.size 38 #[.int .i64 7, .int .i64 q, .slice A kids.length c] ∧ Blk wr (w.heap.size + 1) 27 #[.slice L xs.length d, .int .i64 back] ∧ Below w.heap.size w wr) (fun _ t _ => kids.length - (intOf t).toNat)
  case atStart =>
    refine ⟨0, Nat.zero_le _, rfl, KidRow.none_ _ (Nat.le_refl _) ?_ rfl, by simp, hB0.alloc _, hC0.alloc _, by repeat (first | with_reducible exact Below.refl _ _ | with_reducible refine Below.setCell ?_ (by first | omega | (simp <;> omega)) _ | with_reducible refine Below.drew ?_ | with_reducible refine below_drewN ?_ _ | with_reducible refine Below.alloc ?_ (by first | omega | (simp <;> omega)) _ | with_reducible refine Below.trans ?_ (Below.mono (by assumption) (by first | omega | (simp <;> omega))))⟩
    have := Blk.new ((w.alloc (.cells #[.int .i64 7, .int .i64 q, .slice A kids.length c] 38)).alloc (.cells #[.slice L xs.length d, .int .i64 back] 27)) 89 #[]
    rwa [World.size_alloc, World.size_alloc] at this
  case round =>
    obtain ⟨j, hj, rfl, hkr, hsz, hB, hC, hb⟩ := hrel
    obtain ⟨kv, rfl⟩ : ∃ kv : Value, kv = u7 := ⟨_, rfl⟩
    have HKR := Lib.hid hkr
    clear hkr
    by_cases hlt : j < kids.length
    · obtain ⟨b, off, f, u, rfl, _, hlb, hc1, hc2, hc3, hu, HX, _⟩ := forms_get (h.below hb) hlt
      obtain ⟨Au, cu, rfl, hnu, hcu⟩ := forms_slice hu
      have hmem := List.mem_of_getElem? HX.out
      obtain ⟨q4, q5⟩ := hC.c2
      have hC1 := hC.alloc (.cells #[.int .i64 f.kind, .int .i64 f.prop, .slice Au f.kids.length cu] 38)
      have l1 := (l.below hb).alloc (.cells #[.int .i64 f.kind, .int .i64 f.prop, .slice Au f.kids.length cu] 38)
      have m1 := (m.below hb).alloc (.cells #[.int .i64 f.kind, .int .i64 f.prop, .slice Au f.kids.length cu] 38)
      have hu1 := hu.alloc (.cells #[.int .i64 f.kind, .int .i64 f.prop, .slice Au f.kids.length cu] 38)
      have HKR1 := Lib.hid (HKR.out.below ((Below.refl wr.heap.size wr).alloc (Nat.le_refl _) (.cells #[.int .i64 f.kind, .int .i64 f.prop, .slice Au f.kids.length cu] 38)))
      obtain ⟨_, _⟩ := hC1.c2
      go_wp2_with fail
      refine (IH.out f hmem _ _ _ _ hu1 l1 m1 (HK.out f hmem)).mono ?_
      rintro e w1 ⟨v', rfl, ha, hb1⟩
      obtain ⟨A', c', rfl, hn', hc'⟩ := bools_slice ha
      have z1 := hb1.size
      simp at z1
      have hBs : KidRow (w1.alloc (.cells #[.slice A' (holdL xs.length back (labAt xs ls) f).length c'] 89)) (w.heap.size + 1 + 1) kv j (kids.map (holdL xs.length back (labAt xs ls))) := (HKR1.out.below hb1).below ((Below.refl _ _).alloc (Nat.le_refl _) _)
      obtain ⟨vs, hown, hvl, hvs⟩ := hBs
      have HOW := Lib.hid hown
      have hnews := World.news_of_block (heap_alloc_new w1 (.cells #[.slice A' (holdL xs.length back (labAt xs ls) f).length c'] 89))
      have HNW := Lib.hid hnews
      have HVS := Lib.hid hvs
      obtain ⟨i0, hi, hz0, hz1, hz2⟩ := info_parts Try.infoBools
      clear hown hnews hvs
      go_wp2_with (at_builtin; refine wpList_append_lies _ rfl _ _ _ rfl (w.heap.size + 1 + 1) 89 i0 (.slice none 0 0) 1 24 Try.underlying107 hi hz0 hz1 hz2 rfl (by omega) kv j vs rfl HOW.out ⟨w1.heap.size, 0, none⟩ 1 1 [.slice A' (holdL xs.length back (labAt xs ls) f).length c'] rfl rfl HNW.out (by simp [Value.oneCell']) (by omega) (by unfold maxLen; omega) (by omega) (by simp; omega) (w1.heap.size + 1) (World.size_alloc _ _) ?_; intro g cap w3 hown3 hgrow3 hat3 hlt3)
      go_wp2_with fail
      go_roundw
      case rel =>
        obtain ⟨r1, r2, r3⟩ := HKR1.out.round (by simp; omega) hb1 ha (by simp [HX.out]) vs HOW.out hown3 hgrow3 hat3
        have z3 := r2.size
        simp at z3
        exact ⟨j + 1, by omega, by go_num, r1, by omega, r3 _ _ _ (by omega) (hB.alloc _), r3 _ _ _ (by omega) hC1, by repeat (first | with_reducible exact Below.refl _ _ | with_reducible refine Below.setCell ?_ (by first | omega | (simp <;> omega)) _ | with_reducible refine Below.drew ?_ | with_reducible refine below_drewN ?_ _ | with_reducible refine Below.alloc ?_ (by first | omega | (simp <;> omega)) _ | with_reducible refine Below.trans ?_ (Below.mono (by assumption) (by first | omega | (simp <;> omega))))⟩
      case measure => simp [intOf]; omega
    · have hjk : j = kids.length := by omega
      subst hjk
      have hmk := run_make_row' (P := Try.prog) 89 4 _ 1 Try.underlying89 Try.infoBool rfl .i64 .i64 xs.length (by omega) (by omega)
      have hbo : Below wr.heap.size wr ((wr.alloc (.cells #[.int .i64 xs.length] 3)).alloc (.cells (madeCells #[.bool false] xs.length) 4)) := by repeat (first | with_reducible exact Below.refl _ _ | with_reducible refine Below.setCell ?_ (by first | omega | (simp <;> omega)) _ | with_reducible refine Below.drew ?_ | with_reducible refine below_drewN ?_ _ | with_reducible refine Below.alloc ?_ (by first | omega | (simp <;> omega)) _ | with_reducible refine Below.trans ?_ (Below.mono (by assumption) (by first | omega | (simp <;> omega))))
      have hB2 := hB.next hbo
      have hC2 := hC.next hbo
      obtain ⟨q1, q2, q3⟩ := hB2.c3
      obtain ⟨q4, q5⟩ := hC2.c2
      obtain ⟨q6, q7⟩ := hC.c2
      have hlr := l.below hb
      have hmr := m.below hb
      have hN0 := (Blk.new wr 3 #[.int .i64 xs.length]).alloc (.cells (madeCells #[.bool false] xs.length) 4)
      have hO0 := Blk.new (wr.alloc (.cells #[.int .i64 xs.length] 3)) 4 (madeCells #[.bool false] xs.length)
      rw [World.size_alloc] at hO0
      have HO0 := Lib.hid hO0
      have HN0 := Lib.hid hN0
      have hpos := hl.pos
      have hbk := hl.back
      clear hO0 hN0 hC0 hB0 hlt hj
      obtain ⟨wo, rfl⟩ : ∃ wo : World, wo = wr := ⟨_, rfl⟩
      go_wp2_with fail
      go_loopw [41] (fun t w2 => ∃ (i : Nat) (cs : Array Value), i ≤ xs.length ∧ t = .int .i64 i ∧ Blk w2 (wo.heap.size + 1) 4 cs ∧ Filled cs xs.length i (fun k => false) ∧ Blk w2 wo.heap.size 3 #[.int .i64 xs.length] ∧ Below wo.heap.size wo w2) (fun t _ => xs.length - (intOf t).toNat)
      case atStart => exact ⟨0, _, Nat.zero_le _, rfl, HO0.out, Filled.start _ _, HN0.out, hbo⟩
      case round =>
        obtain ⟨i, cs, hi, rfl, hO, hfl, hN, hb2⟩ := hrel
        have HO := Lib.hid hO
        have HFL := Lib.hid hfl
        obtain ⟨p1, p2, p3⟩ := (hB.next hb2).c3
        obtain ⟨p4, p5⟩ := (hC.next hb2).c2
        clear hO hfl
        by_cases hlt : i < xs.length
        · obtain ⟨bl, ol, x, rfl, _, hll, cx, HX, _⟩ := ints_get (hlr.below hb2) hlt
          obtain ⟨u, hu⟩ := HFL.out.at_ hlt
          have cu : wr.cell? ⟨wo.heap.size + 1, i, none⟩ = some u := (HO.out.cell i).trans hu
          have fu := HO.out.frozen i
          clear hu
          go_wp2_with fail
          go_roundw
          case rel => exact ⟨i + 1, cs, by omega, by go_num, HO.out, HFL.out.skip hlt, hN, hb2⟩
          case measure => simp [intOf]; omega
        · have hin : i = xs.length := by omega
          subst hin
          go_wp2_with fail
          obtain ⟨w5, rfl⟩ : ∃ w5 : World, w5 = wr := ⟨_, rfl⟩
          have hM0 : Mixed cs xs.length (turnV xs.length back (kidH xs back ls kids 0) (kidH xs back ls kids 1) 0) := ⟨HFL.out.1, HFL.out.2.1⟩
          have HM0 := Lib.hid hM0
          clear hM0 p1 p2 p3 p4 p5
          go_loopw [134] (fun tv w2 => ∃ (t : Nat) (cs : Array Value), t ≤ 2 ∧ tv = .int .i64 t ∧ Blk w2 (wo.heap.size + 1) 4 cs ∧ Mixed cs xs.length (turnV xs.length back (kidH xs back ls kids 0) (kidH xs back ls kids 1) t) ∧ Blk w2 wo.heap.size 3 #[.int .i64 xs.length] ∧ Below wo.heap.size wo w2) (fun tv _ => 2 - (intOf tv).toNat)
          case atStart => exact ⟨0, cs, by omega, rfl, HO.out, HM0.out, hN, hb2⟩
          case round =>
            obtain ⟨t, cs2, ht, rfl, hO2, hM2, hN2, hb3⟩ := hrel
            have HO2 := Lib.hid hO2
            have HM2 := Lib.hid hM2
            clear hO2 hM2 HM0 HO HFL
            obtain ⟨w6, rfl⟩ : ∃ w6 : World, w6 = wr := ⟨_, rfl⟩
            by_cases htl : t < 2
            · have hn1 := hN2.c1
              have htd : decide ((t : Int) < 2) = true := by simp; omega
              go_wp2_with fail
              go_loopw [15] (fun iv w2 => ∃ (rem : Nat) (z : Int) (cs : Array Value), rem ≤ xs.length ∧ iv = .int .i64 z ∧ z = rem - 1 ∧ Blk w2 (wo.heap.size + 1) 4 cs ∧ Mixed cs xs.length (mixV xs.length back (kidH xs back ls kids 0) (kidH xs back ls kids 1) t rem) ∧ Blk w2 wo.heap.size 3 #[.int .i64 xs.length] ∧ Below wo.heap.size wo w2) (fun iv _ => ((intOf iv) + 1).toNat)
              case atStart => exact ⟨xs.length, _, cs2, Nat.le_refl _, rfl, rfl, HO2.out, HM2.out.congr (fun k hk => by unfold mixV; rw [if_pos hk]), hN2, hb3⟩
              case round =>
                obtain ⟨rem, z, cs3, hrm, rfl, hz, hO3, hM3, hN3, hb4⟩ := hrel
                have HO3 := Lib.hid hO3
                have HM3 := Lib.hid hM3
                obtain ⟨p4, p5⟩ := (hC.next hb4).c2
                have hn3 := hN3.c1
                clear hO3 hM3
                rcases Nat.eq_zero_or_pos rem with rfl | hrp
                · obtain rfl : z = -1 := by omega
                  clear hz
                  go_wp2_with fail
                  go_roundw
                  case rel => exact ⟨t + 1, cs3, by omega, by go_num, HO3.out, HM3.out.congr (fun k hk => by unfold mixV; rw [if_neg (by omega)]), hN3, hb4⟩
                  case measure => simp [intOf]; omega
                · obtain ⟨p, rfl⟩ : ∃ p, rem = p + 1 := ⟨rem - 1, by omega⟩
                  obtain rfl : z = (p : Int) := by omega
                  have hpn : p < xs.length := by omega
                  have hj1 : 0 < kids.length := by rw [HKL.out]; omega
                  have hj2 : 1 < kids.length := by rw [HKL.out]; omega
                  obtain ⟨g, cap, b0, o0, c0, rfl, hg, hb0, k1, hc0, k2⟩ := HKR.out.cell hb4 hj1 hpn
                  obtain ⟨g', cap', b1, o1, c1, eg, hg', hb1, k3, hc1, k4⟩ := HKR.out.cell hb4 hj2 hpn
                  injection eg with eg1 eg2 eg3
                  injection eg1 with eg1
                  injection eg1 with eg1
                  subst eg1 eg3
                  have hnx := nxt_lt (i := p) hbk
                  have HTS := Lib.hid (turn_step (a := kidH xs back ls kids 0) (b := kidH xs back ls kids 1) (t := t) hpn hbk)
                  have cn := (HO3.out.cell (nxt xs.length back p)).trans (HM3.out.2 _ hnx)
                  obtain ⟨u, hu⟩ : ∃ u, wr.cell? ⟨wo.heap.size + 1, p, none⟩ = some u := ⟨_, (HO3.out.cell p).trans (HM3.out.2 _ hpn)⟩
                  have fu := HO3.out.frozen p
                  have HNX : Hid (∀ W : World, W.cell? ⟨wo.heap.size, 0, none⟩ = some (.int .i64 xs.length) → W.cell? ⟨w.heap.size + 1, 1, none⟩ = some (.int .i64 back) → Calls Try.prog 76 #[.int .i64 p, .pointer (some ⟨wo.heap.size, 0, none⟩), .pointer (some ⟨w.heap.size + 1, 0, none⟩)] W fun e w' => e = .returned (.int .i64 (nxt xs.length back p : Nat)) ∧ W = w') := fun W => next_any xs.length back p (by omega) hpn _ _ W
                  generalize nxt xs.length back p = np at *
                  obtain ⟨x0, hx0⟩ : ∃ x0, x0 = kidH xs back ls kids 0 p := ⟨_, rfl⟩
                  obtain ⟨x1, hx1⟩ : ∃ x1, x1 = kidH xs back ls kids 1 p := ⟨_, rfl⟩
                  rw [← hx0] at k2
                  rw [← hx1] at k4
                  have HTS2 := HTS.out
                  rw [← hx0, ← hx1] at HTS2
                  have HT2 := Lib.hid HTS2
                  clear hx0 hx1 eg2 hz HTS2 HTS
                  cases x1
                  · cases x0
                    · go_wp2_with fail
                      go_roundw
                      case rel => exact ⟨p, _, _, by omega, rfl, by omega, HO3.out.set_ _ _, HM3.out.set hpn (by rw [HT2.out]; simp), hN3.far (by simp) _, by repeat (first | with_reducible exact Below.refl _ _ | with_reducible refine Below.setCell ?_ (by first | omega | (simp <;> omega)) _ | with_reducible refine Below.drew ?_ | with_reducible refine below_drewN ?_ _ | with_reducible refine Below.alloc ?_ (by first | omega | (simp <;> omega)) _ | with_reducible refine Below.trans ?_ (Below.mono (by assumption) (by first | omega | (simp <;> omega))))⟩
                      case measure => simp [intOf]
                    · go_wp2_with fail
                      refine (HNX.out _ hn3 p5).mono ?_
                      rintro e w7 ⟨rfl, rfl⟩
                      go_wp2_with fail
                      go_roundw
                      case rel => exact ⟨p, _, _, by omega, rfl, by omega, HO3.out.set_ _ _, HM3.out.set hpn (by rw [HT2.out]; simp), hN3.far (by simp) _, by repeat (first | with_reducible exact Below.refl _ _ | with_reducible refine Below.setCell ?_ (by first | omega | (simp <;> omega)) _ | with_reducible refine Below.drew ?_ | with_reducible refine below_drewN ?_ _ | with_reducible refine Below.alloc ?_ (by first | omega | (simp <;> omega)) _ | with_reducible refine Below.trans ?_ (Below.mono (by assumption) (by first | omega | (simp <;> omega))))⟩
                      case measure => simp [intOf]
                  · go_wp2_with fail
                    go_roundw
                    case rel => exact ⟨p, _, _, by omega, rfl, by omega, HO3.out.set_ _ _, HM3.out.set hpn (by rw [HT2.out]; simp), hN3.far (by simp) _, by repeat (first | with_reducible exact Below.refl _ _ | with_reducible refine Below.setCell ?_ (by first | omega | (simp <;> omega)) _ | with_reducible refine Below.drew ?_ | with_reducible refine below_drewN ?_ _ | with_reducible refine Below.alloc ?_ (by first | omega | (simp <;> omega)) _ | with_reducible refine Below.trans ?_ (Below.mono (by assumption) (by first | omega | (simp <;> omega))))⟩
                    case measure => simp [intOf]
            · obtain rfl : t = 2 := by omega
              go_wp2_with fail
              go_ret
              refine ⟨_, rfl, ?_, ?_⟩
              · have e : holdL xs.length back (labAt xs ls) ⟨7, q, kids⟩ = (List.range xs.length).map (turnV xs.length back (kidH xs back ls kids 0) (kidH xs back ls kids 1) 2) := by
                  unfold holdL
                  rw [Fm.hold_eq]
                  refine List.map_congr_left fun k hk => ?_
                  exact (until_eq xs.length back (kidH xs back ls kids 0) (kidH xs back ls kids 1) hbk k (by simpa using hk)).symm
                rw [e]
                exact HM2.out.all HO2.out (by omega) (by omega)
              · repeat (first | with_reducible exact Below.refl _ _ | with_reducible refine Below.setCell ?_ (by first | omega | (simp <;> omega)) _ | with_reducible refine Below.drew ?_ | with_reducible refine below_drewN ?_ _ | with_reducible refine Below.alloc ?_ (by first | omega | (simp <;> omega)) _ | with_reducible refine Below.trans ?_ (Below.mono (by assumption) (by first | omega | (simp <;> omega))))

end Go.Proofs.Ytagnfckihdlhpaa

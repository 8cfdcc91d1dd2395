/-
  What the program's places computes at kind 2.
-/
import Derived.Test.YtagnfckihdlhpaaPlacesI
namespace Go.Proofs.Ytagnfckihdlhpaa
open Go.RowKit

theorem bit_all : ∀ ny, ny < 256 → ∀ nq, nq < 8 → (bits BinOp.and IntKind.i64 ((ny : Nat) : Int) (IntKind.i64.wrap (2 ^ nq)) != 0) = ny.testBit nq := by decide +kernel
theorem wrapEq (x : Int) : IntKind.i64.wrap x = wrap64 x := IntWalk.i64_left x
theorem bit_eq {ny nq : Nat} (h1 : ny < 256) (h2 : nq < 8) : hasBit (ny : Int) (nq : Int) = (bits BinOp.and IntKind.i64 ((ny : Nat) : Int) (wrap64 (2 ^ nq)) != 0) := by
  rw [← wrapEq, bit_all ny h1 nq h2]
  rfl
theorem labAt_of {xs ls : List Int} {i nx : Nat} {y : Int} (hx : xs[i]? = some (nx : Int)) (hy : ls[nx]? = some y) : labAt xs ls i = y := by
  unfold labAt
  rw [getD_of hx, Int.toNat_natCast, getD_of hy]

set_option maxRecDepth 100000 in
set_option maxHeartbeats 4000000 in
theorem places_2 (xs : List Int) (back : Nat) (ls : List Int) (hl : LassoOK xs back ls) (q : Int) (kids : List Fm) (hk : kids.length = 0) (hkok : ∀ x ∈ kids, x.ok = true) (ih : ∀ x ∈ kids, PlacesF xs back ls x) (_hq0 : 0 ≤ q) (_hq7 : q ≤ 7) (w : World) (v s lv : Value)
    (h : At w Any (forms kids) v) (l : At w Any (ints xs) s) (m : At w Any (ints ls) lv) :
    Calls Try.prog 60 #[.agg #[.int .i64 2, .int .i64 q, v], .agg #[s, .int .i64 back], lv] w fun e w' => ∃ v', e = .returned v' ∧ At w' (From w.heap.size) (bools (holdL xs.length back (labAt xs ls) ⟨2, q, kids⟩)) v' ∧ Below w.heap.size w w' := by
  obtain ⟨A, c, rfl, hn, hc⟩ := forms_slice h
  obtain ⟨L, d, rfl, hnl, hcl⟩ := ints_slice l
  obtain ⟨M, e, rfl, hnm, hcm⟩ := ints_slice m
  have hB0 := (Blk.new w 38 #[.int .i64 2, .int .i64 q, .slice A kids.length c]).alloc (.cells #[.slice L xs.length d, .int .i64 back] 27)
  have hC0 := Blk.new (w.alloc (.cells #[.int .i64 2, .int .i64 q, .slice A kids.length c] 38)) 27 #[.slice L xs.length d, .int .i64 back]
  rw [World.size_alloc] at hC0
  have hks : kids.length ≤ 2 := by omega
  have hxl := hl.le
  have IH := Lib.hid ih
  have HK := Lib.hid hkok
  have HKL := Lib.hid hk
  clear ih hkok hk
  go_enter Try.func60, Try.ntmps60
  go_wp2_with fail
  go_loopw [7, 20] (fun kv t wr => ∃ j : Nat, j ≤ kids.length ∧ t = .int .i64 j ∧ KidRow wr (w.heap.size + 1 + 1) kv j (kids.map (holdL xs.length back (labAt xs ls))) ∧ w.heap.size + 1 + 1 ≤ wr.heap.size ∧
      Blk wr w.heap.size 38 #[.int .i64 2, .int .i64 q, .slice A kids.length c] ∧ Blk wr (w.heap.size + 1) 27 #[.slice L xs.length d, .int .i64 back] ∧ Below w.heap.size w wr) (fun _ t _ => kids.length - (intOf t).toNat)
  case atStart =>
    refine ⟨0, Nat.zero_le _, rfl, KidRow.none_ _ (Nat.le_refl _) ?_ rfl, by simp, hB0.alloc _, hC0.alloc _, by repeat (first | with_reducible exact Below.refl _ _ | with_reducible refine Below.setCell ?_ (by first | omega | (simp <;> omega)) _ | with_reducible refine Below.drew ?_ | with_reducible refine below_drewN ?_ _ | with_reducible refine Below.alloc ?_ (by first | omega | (simp <;> omega)) _ | with_reducible refine Below.trans ?_ (Below.mono (by assumption) (by first | omega | (simp <;> omega))))⟩
    have := Blk.new ((w.alloc (.cells #[.int .i64 2, .int .i64 q, .slice A kids.length c] 38)).alloc (.cells #[.slice L xs.length d, .int .i64 back] 27)) 89 #[]
    rwa [World.size_alloc, World.size_alloc] at this
  case round =>
    obtain ⟨j, hj, rfl, hkr, hsz, hB, hC, hb⟩ := hrel
    obtain ⟨kv, rfl⟩ : ∃ kv : Value, kv = u7 := ⟨_, rfl⟩
    have HKR := Lib.hid hkr
    clear hkr
    by_cases hlt : j < kids.length
    · obtain ⟨b, off, f, u, rfl, _, hlb, hc1, hc2, hc3, hu, HX, _⟩ := forms_get (h.below hb) hlt
      obtain ⟨Au, cu, rfl, hnu, hcu⟩ := forms_slice hu
      have hmem := List.mem_of_getElem? HX.out
      obtain ⟨q4, q5⟩ := hC.c2
      have hC1 := hC.alloc (.cells #[.int .i64 f.kind, .int .i64 f.prop, .slice Au f.kids.length cu] 38)
      have l1 := (l.below hb).alloc (.cells #[.int .i64 f.kind, .int .i64 f.prop, .slice Au f.kids.length cu] 38)
      have m1 := (m.below hb).alloc (.cells #[.int .i64 f.kind, .int .i64 f.prop, .slice Au f.kids.length cu] 38)
      have hu1 := hu.alloc (.cells #[.int .i64 f.kind, .int .i64 f.prop, .slice Au f.kids.length cu] 38)
      have HKR1 := Lib.hid (HKR.out.below ((Below.refl wr.heap.size wr).alloc (Nat.le_refl _) (.cells #[.int .i64 f.kind, .int .i64 f.prop, .slice Au f.kids.length cu] 38)))
      obtain ⟨_, _⟩ := hC1.c2
      go_wp2_with fail
      refine (IH.out f hmem _ _ _ _ hu1 l1 m1 (HK.out f hmem)).mono ?_
      rintro e w1 ⟨v', rfl, ha, hb1⟩
      obtain ⟨A', c', rfl, hn', hc'⟩ := bools_slice ha
      have z1 := hb1.size
      simp at z1
      have hBs : KidRow (w1.alloc (.cells #[.slice A' (holdL xs.length back (labAt xs ls) f).length c'] 89)) (w.heap.size + 1 + 1) kv j (kids.map (holdL xs.length back (labAt xs ls))) := (HKR1.out.below hb1).below ((Below.refl _ _).alloc (Nat.le_refl _) _)
      obtain ⟨vs, hown, hvl, hvs⟩ := hBs
      have HOW := Lib.hid hown
      have hnews := World.news_of_block (heap_alloc_new w1 (.cells #[.slice A' (holdL xs.length back (labAt xs ls) f).length c'] 89))
      have HNW := Lib.hid hnews
      have HVS := Lib.hid hvs
      obtain ⟨i0, hi, hz0, hz1, hz2⟩ := info_parts Try.infoBools
      clear hown hnews hvs
      go_wp2_with (at_builtin; refine wpList_append_lies _ rfl _ _ _ rfl (w.heap.size + 1 + 1) 89 i0 (.slice none 0 0) 1 24 Try.underlying107 hi hz0 hz1 hz2 rfl (by omega) kv j vs rfl HOW.out ⟨w1.heap.size, 0, none⟩ 1 1 [.slice A' (holdL xs.length back (labAt xs ls) f).length c'] rfl rfl HNW.out (by simp [Value.oneCell']) (by omega) (by unfold maxLen; omega) (by omega) (by simp; omega) (w1.heap.size + 1) (World.size_alloc _ _) ?_; intro g cap w3 hown3 hgrow3 hat3 hlt3)
      go_wp2_with fail
      go_roundw
      case rel =>
        obtain ⟨r1, r2, r3⟩ := HKR1.out.round (by simp; omega) hb1 ha (by simp [HX.out]) vs HOW.out hown3 hgrow3 hat3
        have z3 := r2.size
        simp at z3
        exact ⟨j + 1, by omega, by go_num, r1, by omega, r3 _ _ _ (by omega) (hB.alloc _), r3 _ _ _ (by omega) hC1, by repeat (first | with_reducible exact Below.refl _ _ | with_reducible refine Below.setCell ?_ (by first | omega | (simp <;> omega)) _ | with_reducible refine Below.drew ?_ | with_reducible refine below_drewN ?_ _ | with_reducible refine Below.alloc ?_ (by first | omega | (simp <;> omega)) _ | with_reducible refine Below.trans ?_ (Below.mono (by assumption) (by first | omega | (simp <;> omega))))⟩
      case measure => simp [intOf]; omega
    · have hjk : j = kids.length := by omega
      subst hjk
      have hmk := run_make_row' (P := Try.prog) 89 4 _ 1 Try.underlying89 Try.infoBool rfl .i64 .i64 xs.length (by omega) (by omega)
      have hbo : Below wr.heap.size wr ((wr.alloc (.cells #[.int .i64 xs.length] 3)).alloc (.cells (madeCells #[.bool false] xs.length) 4)) := by repeat (first | with_reducible exact Below.refl _ _ | with_reducible refine Below.setCell ?_ (by first | omega | (simp <;> omega)) _ | with_reducible refine Below.drew ?_ | with_reducible refine below_drewN ?_ _ | with_reducible refine Below.alloc ?_ (by first | omega | (simp <;> omega)) _ | with_reducible refine Below.trans ?_ (Below.mono (by assumption) (by first | omega | (simp <;> omega))))
      have hB2 := hB.next hbo
      have hC2 := hC.next hbo
      obtain ⟨q1, q2, q3⟩ := hB2.c3
      obtain ⟨q4, q5⟩ := hC2.c2
      obtain ⟨q6, q7⟩ := hC.c2
      have hlr := l.below hb
      have hmr := m.below hb
      have hN0 := (Blk.new wr 3 #[.int .i64 xs.length]).alloc (.cells (madeCells #[.bool false] xs.length) 4)
      have hO0 := Blk.new (wr.alloc (.cells #[.int .i64 xs.length] 3)) 4 (madeCells #[.bool false] xs.length)
      rw [World.size_alloc] at hO0
      have HO0 := Lib.hid hO0
      have HN0 := Lib.hid hN0
      have hpos := hl.pos
      have hbk := hl.back
      clear hO0 hN0 hC0 hB0 hlt hj
      obtain ⟨wo, rfl⟩ : ∃ wo : World, wo = wr := ⟨_, rfl⟩
      go_wp2_with fail
      go_loopw [41] (fun t w2 => ∃ (i : Nat) (cs : Array Value), i ≤ xs.length ∧ t = .int .i64 i ∧ Blk w2 (wo.heap.size + 1) 4 cs ∧ Filled cs xs.length i (fun k => hasBit (labAt xs ls k) q) ∧ Blk w2 wo.heap.size 3 #[.int .i64 xs.length] ∧ Below wo.heap.size wo w2) (fun t _ => xs.length - (intOf t).toNat)
      case atStart => exact ⟨0, _, Nat.zero_le _, rfl, HO0.out, Filled.start _ _, HN0.out, hbo⟩
      case round =>
        obtain ⟨i, cs, hi, rfl, hO, hfl, hN, hb2⟩ := hrel
        have HO := Lib.hid hO
        have HFL := Lib.hid hfl
        obtain ⟨p1, p2, p3⟩ := (hB.next hb2).c3
        obtain ⟨p4, p5⟩ := (hC.next hb2).c2
        clear hO hfl
        by_cases hlt : i < xs.length
        · obtain ⟨bl, ol, x, rfl, _, hll, cx, HX, _⟩ := ints_get (hlr.below hb2) hlt
          obtain ⟨u, hu⟩ := HFL.out.at_ hlt
          have cu : wr.cell? ⟨wo.heap.size + 1, i, none⟩ = some u := (HO.out.cell i).trans hu
          have fu := HO.out.frozen i
          clear hu
          have hst := hl.states x (List.mem_of_getElem? HX.out)
          obtain ⟨nx, rfl⟩ := Int.eq_ofNat_of_zero_le hst.1
          have hnx : nx < ls.length := by omega
          obtain ⟨bm, om, y, rfl, _, hlm, cy0, HY, _⟩ := ints_get hmr hnx
          have cy := (hb2.cell (p := ⟨bm, om + nx, none⟩) hlm).trans cy0
          have hy := hl.labels y (List.mem_of_getElem? HY.out)
          obtain ⟨ny, rfl⟩ := Int.eq_ofNat_of_zero_le hy.1
          obtain ⟨nq, rfl⟩ := Int.eq_ofNat_of_zero_le _hq0
          have hnx' : (nx : Int) < (ls.length : Int) := by omega
          have hii : (i : Int) < (xs.length : Int) := by omega
          have hne1 : ¬ bm = wo.heap.size + 1 := by omega
          have hne2 : ¬ w.heap.size = wo.heap.size + 1 := by omega
          have hne3 : ¬ wo.heap.size + 1 = bm := by omega
          have hne4 : ¬ wo.heap.size + 1 = w.heap.size := by omega
          go_wp2_with fail
          go_region_held3 (fun w' => w'.cell? ⟨bm, om + nx, none⟩ = some (.int .i64 ny) ∧ w'.cell? ⟨w.heap.size, 1, none⟩ = some (.int .i64 nq)) (go_keep) (fail)
          go_wp2_with fail
          go_roundw
          case rel => exact ⟨i + 1, _, by omega, by go_num, HO.out.set_ _ _, HFL.out.to hlt (by rw [labAt_of HX.out HY.out]; exact bit_eq (ny := ny) (nq := nq) (by omega) (by omega)), hN.far (by simp) _, by repeat (first | with_reducible exact Below.refl _ _ | with_reducible refine Below.setCell ?_ (by first | omega | (simp <;> omega)) _ | with_reducible refine Below.drew ?_ | with_reducible refine below_drewN ?_ _ | with_reducible refine Below.alloc ?_ (by first | omega | (simp <;> omega)) _ | with_reducible refine Below.trans ?_ (Below.mono (by assumption) (by first | omega | (simp <;> omega))))⟩
          case measure => simp [intOf]; omega
        · have hin : i = xs.length := by omega
          subst hin
          go_wp2_with fail
          go_ret
          refine ⟨_, rfl, ?_, ?_⟩
          · have e : holdL xs.length back (labAt xs ls) ⟨2, q, kids⟩ = (List.range xs.length).map fun k => hasBit (labAt xs ls k) q := by
              unfold holdL
              rw [Fm.hold_eq]
              rfl
            rw [e]
            exact HFL.out.all HO.out (by omega) (by omega)
          · repeat (first | with_reducible exact Below.refl _ _ | with_reducible refine Below.setCell ?_ (by first | omega | (simp <;> omega)) _ | with_reducible refine Below.drew ?_ | with_reducible refine below_drewN ?_ _ | with_reducible refine Below.alloc ?_ (by first | omega | (simp <;> omega)) _ | with_reducible refine Below.trans ?_ (Below.mono (by assumption) (by first | omega | (simp <;> omega))))

end Go.Proofs.Ytagnfckihdlhpaa

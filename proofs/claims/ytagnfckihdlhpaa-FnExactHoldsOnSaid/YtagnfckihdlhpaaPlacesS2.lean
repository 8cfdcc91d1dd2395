/-
  What the reference's l31Places computes at the kinds 2 and 6.
-/
import Derived.Test.YtagnfckihdlhpaaPlacesS
import Derived.Test.YtagnfckihdlhpaaHas
namespace Go.Proofs.Ytagnfckihdlhpaa
open Go.RowKit

set_option maxRecDepth 100000 in
set_option maxHeartbeats 4000000 in
theorem l31Places_2 (xs : List Int) (back : Nat) (ls : List Int) (hl : LassoOK xs back ls) (q : Int) (kids : List Fm) (hk : kids.length = 0) (hkok : ∀ x ∈ kids, x.ok = true) (ih : ∀ x ∈ kids, PlacesG xs back ls x) (_hq0 : 0 ≤ q) (_hq7 : q ≤ 7) (w : World) (v s lv : Value)
    (h : At w Any (forms kids) v) (l : At w Any (ints xs) s) (m : At w Any (ints ls) lv) :
    Calls Try.prog 62 #[.agg #[.int .i64 2, .int .i64 q, v], .agg #[s, .int .i64 back], lv] w fun e w' => ∃ v', e = .returned v' ∧ At w' (From w.heap.size) (bools (holdL xs.length back (labAt xs ls) ⟨2, q, kids⟩)) v' ∧ Below w.heap.size w w' := by
  obtain ⟨A, c, rfl, hn, hc⟩ := forms_slice h
  obtain ⟨L, d, rfl, hnl, hcl⟩ := ints_slice l
  obtain ⟨M, e, rfl, hnm, hcm⟩ := ints_slice m
  have hB0 := (Blk.new w 38 #[.int .i64 2, .int .i64 q, .slice A kids.length c]).alloc (.cells #[.slice L xs.length d, .int .i64 back] 27)
  have hC0 := Blk.new (w.alloc (.cells #[.int .i64 2, .int .i64 q, .slice A kids.length c] 38)) 27 #[.slice L xs.length d, .int .i64 back]
  rw [World.size_alloc] at hC0
  have hO0 := Blk.new ((w.alloc (.cells #[.int .i64 2, .int .i64 q, .slice A kids.length c] 38)).alloc (.cells #[.slice L xs.length d, .int .i64 back] 27)) 4 (madeCells #[.bool false] xs.length)
  rw [World.size_alloc, World.size_alloc] at hO0
  have hks : kids.length ≤ 2 := by omega
  have hxl := hl.le
  have hmk := run_make_row' (P := Try.prog) 89 4 _ 1 Try.underlying89 Try.infoBool rfl .i64 .i64 xs.length (by omega) (by omega)
  have IH := Lib.hid ih
  have HK := Lib.hid hkok
  have HKL := Lib.hid hk
  have HO0 := Lib.hid hO0
  clear ih hkok hk hO0
  go_enter Try.func62, Try.ntmps62
  go_wp2_with fail
  go_loopw [9, 10] (fun kv t wr => ∃ j : Nat, j ≤ kids.length ∧ t = .int .i64 j ∧ KidRow wr (w.heap.size + 1 + 1 + 1) kv j (kids.map (holdL xs.length back (labAt xs ls))) ∧ w.heap.size + 1 + 1 + 1 ≤ wr.heap.size ∧
      Blk wr w.heap.size 38 #[.int .i64 2, .int .i64 q, .slice A kids.length c] ∧ Blk wr (w.heap.size + 1) 27 #[.slice L xs.length d, .int .i64 back] ∧ Blk wr (w.heap.size + 1 + 1) 4 (madeCells #[.bool false] xs.length) ∧ Below w.heap.size w wr) (fun _ t _ => kids.length - (intOf t).toNat)
  case atStart =>
    refine ⟨0, Nat.zero_le _, rfl, KidRow.none_ _ (Nat.le_refl _) ?_ rfl, by simp, (hB0.alloc _).alloc _, (hC0.alloc _).alloc _, HO0.out.alloc _, by repeat (first | with_reducible exact Below.refl _ _ | with_reducible refine Below.setCell ?_ (by first | omega | (simp <;> omega)) _ | with_reducible refine Below.drew ?_ | with_reducible refine below_drewN ?_ _ | with_reducible refine Below.alloc ?_ (by first | omega | (simp <;> omega)) _ | with_reducible refine Below.trans ?_ (Below.mono (by assumption) (by first | omega | (simp <;> omega))))⟩
    have := Blk.new (((w.alloc (.cells #[.int .i64 2, .int .i64 q, .slice A kids.length c] 38)).alloc (.cells #[.slice L xs.length d, .int .i64 back] 27)).alloc (.cells (madeCells #[.bool false] xs.length) 4)) 89 #[]
    rwa [World.size_alloc, World.size_alloc, World.size_alloc] at this
  case round =>
    obtain ⟨j, hj, rfl, hkr, hsz, hB, hC, hOO, hb⟩ := hrel
    obtain ⟨kv, rfl⟩ : ∃ kv : Value, kv = u9 := ⟨_, rfl⟩
    have HKR := Lib.hid hkr
    have HOO := Lib.hid hOO
    clear hkr hmk HO0 hOO hB0 hC0
    by_cases hlt : j < kids.length
    · obtain ⟨b, off, f, u, rfl, _, hlb, kc1, kc2, kc3, hu, HX, _⟩ := forms_get h hlt
      obtain ⟨Au, cu, rfl, hnu, hcu⟩ := forms_slice hu
      have hmem := List.mem_of_getElem? HX.out
      have hc1 := (hb.cell (p := ⟨b, off + j * 3, none⟩) hlb).trans kc1
      have hc2 := (hb.cell (p := ⟨b, off + j * 3 + 1, none⟩) hlb).trans kc2
      have hc3 := (hb.cell (p := ⟨b, off + j * 3 + 2, none⟩) hlb).trans kc3
      obtain ⟨q1, q2, q3⟩ := hB.c3
      obtain ⟨q4, q5⟩ := hC.c2
      have hu1 := (hu.below hb).drew
      have l1 := (l.below hb).drew
      have m1 := (m.below hb).drew
      have hij : (j : Int) < (kids.length : Int) := by omega
      obtain ⟨i0, hi, hz0, hz1, hz2⟩ := info_parts Try.infoBools
      go_wp2_with fail
      go_region_held3 (fun w' => w'.cell? ⟨w.heap.size, 2, none⟩ = some (.slice (some ⟨b, off, none⟩) kids.length c) ∧ w'.cell? ⟨w.heap.size + 1, 0, none⟩ = some (.slice L xs.length d) ∧ w'.cell? ⟨w.heap.size + 1, 1, none⟩ = some (.int .i64 back) ∧ w'.cell? ⟨b, off + j * 3, none⟩ = some (.int .i64 f.kind) ∧ w'.cell? ⟨b, off + j * 3 + 1, none⟩ = some (.int .i64 f.prop) ∧ w'.cell? ⟨b, off + j * 3 + 2, none⟩ = some (.slice Au f.kids.length cu)) (go_keep)
        (first | (go_at_call 62; refine (IH.out f hmem _ _ _ _ ?_ ?_ ?_ (HK.out f hmem)).mono ?_; (exact hu1); (exact l1); (exact m1); rintro e w1 ⟨v', rfl, ha, hb1⟩; obtain ⟨A', c', rfl, hn', hc'⟩ := bools_slice ha; have z1 := hb1.size; simp at z1; obtain ⟨b1, b2⟩ := bcell hb1; have y1 := ((hB.drew.next hb1).alloc (.cells #[.slice A' (holdL xs.length back (labAt xs ls) f).length c'] 89)).c3; have y2 := ((hC.drew.next hb1).alloc (.cells #[.slice A' (holdL xs.length back (labAt xs ls) f).length c'] 89)).c2; obtain ⟨y11, y12, y13⟩ := y1; obtain ⟨y21, y22⟩ := y2; obtain ⟨y31, y32, y33⟩ := (hB.drew.next hb1).c3; obtain ⟨y41, y42⟩ := (hC.drew.next hb1).c2; have x1 := (hb1.cell (p := ⟨b, off + j * 3, none⟩) (by simp; omega)).trans hc1; have x2 := (hb1.cell (p := ⟨b, off + j * 3 + 1, none⟩) (by simp; omega)).trans hc2; have x3 := (hb1.cell (p := ⟨b, off + j * 3 + 2, none⟩) (by simp; omega)).trans hc3; clear b1 b2; have xa1 := (World.cell?_alloc_lt w1 (.cells #[.slice A' (holdL xs.length back (labAt xs ls) f).length c'] 89) ⟨b, off + j * 3, none⟩ (by show b < w1.heap.size; omega)).trans x1; have xa2 := (World.cell?_alloc_lt w1 (.cells #[.slice A' (holdL xs.length back (labAt xs ls) f).length c'] 89) ⟨b, off + j * 3 + 1, none⟩ (by show b < w1.heap.size; omega)).trans x2; have xa3 := (World.cell?_alloc_lt w1 (.cells #[.slice A' (holdL xs.length back (labAt xs ls) f).length c'] 89) ⟨b, off + j * 3 + 2, none⟩ (by show b < w1.heap.size; omega)).trans x3; have HKR1 := Lib.hid (((HKR.out.below ((Below.refl _ _).drew)).below hb1).below ((Below.refl w1.heap.size w1).alloc (Nat.le_refl _) (.cells #[.slice A' (holdL xs.length back (labAt xs ls) f).length c'] 89))); obtain ⟨vs, hown, hvl, hvs⟩ := HKR1.out; have HOW := Lib.hid hown; have HNW := Lib.hid (World.news_of_block (heap_alloc_new w1 (.cells #[.slice A' (holdL xs.length back (labAt xs ls) f).length c'] 89))); clear hown hvs) | (refine step_append_lies _ (by rfl) _ _ _ (by rfl) (w.heap.size + 1 + 1 + 1) 89 i0 (.slice none 0 0) 1 24 Try.underlying107 hi hz0 hz1 hz2 rfl (by omega) kv j vs (by rfl) HOW.out ⟨w1.heap.size, 0, none⟩ 1 1 [.slice A' (holdL xs.length back (labAt xs ls) f).length c'] (by rfl) rfl HNW.out (by simp [Value.oneCell']) (by omega) (by unfold maxLen; omega) (by omega) (by simp; omega) (w1.heap.size + 1) (World.size_alloc _ _) ?_; intro g cap w3 hown3 hgrow3 hat3 hlt3; have HR := Lib.hid ((HKR.out.below ((Below.refl _ _).drew)).round (by show _ ≤ wr.heap.size; omega) hb1 ha (by simp [HX.out]) vs HOW.out hown3 hgrow3 hat3); obtain ⟨y51, y52, y53⟩ := (HR.out.2.2 _ _ _ (by omega) hB.drew).c3; obtain ⟨y61, y62⟩ := (HR.out.2.2 _ _ _ (by omega) hC.drew).c2; have x1 := (HR.out.2.1.cell (p := ⟨b, off + j * 3, none⟩) (by show b < _; omega)).trans hc1; have x2 := (HR.out.2.1.cell (p := ⟨b, off + j * 3 + 1, none⟩) (by show b < _; omega)).trans hc2; have x3 := (HR.out.2.1.cell (p := ⟨b, off + j * 3 + 2, none⟩) (by show b < _; omega)).trans hc3))
      go_wp2_with fail
      go_roundw
      case rel =>
        obtain ⟨r1, r2, r3⟩ := HR.out
        have z3 := r2.size
        simp at z3
        exact ⟨j + 1, by omega, by go_num, r1, by omega, r3 _ _ _ (by omega) hB.drew, r3 _ _ _ (by omega) hC.drew, r3 _ _ _ (by omega) HOO.out.drew, by repeat (first | with_reducible exact Below.refl _ _ | with_reducible refine Below.setCell ?_ (by first | omega | (simp <;> omega)) _ | with_reducible refine Below.drew ?_ | with_reducible refine below_drewN ?_ _ | with_reducible refine Below.alloc ?_ (by first | omega | (simp <;> omega)) _ | with_reducible refine Below.trans ?_ (Below.mono (by assumption) (by first | omega | (simp <;> omega))))⟩
      case measure => simp [intOf]; omega
    · have hjk : j = kids.length := by omega
      subst hjk
      obtain ⟨wo, rfl⟩ : ∃ wo : World, wo = wr := ⟨_, rfl⟩
      obtain ⟨q1, q2, q3⟩ := hB.c3
      have hpos := hl.pos
      have hbk := hl.back
      clear hlt hj
      go_wp2_with fail
      go_loopw [11] (fun t w2 => ∃ (i : Nat) (cs : Array Value), i ≤ xs.length ∧ t = .int .i64 i ∧ Blk w2 (w.heap.size + 1 + 1) 4 cs ∧ Filled cs xs.length i (fun k => hasBit (labAt xs ls k) q) ∧ wo.grownBy w2 (some (w.heap.size + 1 + 1)) ∧ Below w.heap.size w w2) (fun t _ => xs.length - (intOf t).toNat)
      case atStart => exact ⟨0, _, Nat.zero_le _, rfl, HOO.out, Filled.start _ _, World.grownBy.refl _ _, hb⟩
      case round =>
        obtain ⟨i, cs, hi, rfl, hO, hfl, hgb, hb2⟩ := hrel
        have HO := Lib.hid hO
        have HFL := Lib.hid hfl
        have hBr := hB.grown hgb (fun e => by injection e with e; omega)
        have hCr := hC.grown hgb (fun e => by injection e with e; omega)
        obtain ⟨p1, p2, p3⟩ := hBr.c3
        obtain ⟨p4, p5⟩ := hCr.c2
        have HKK : Hid (∀ x, w.heap.size + 1 + 1 + 1 ≤ x → x < wo.heap.size → wr.heap[x]? = wo.heap[x]?) := fun x h1 h2 => hgb.block x h2 (by simp; omega)
        have zr := hgb.size
        clear hO hfl
        by_cases hlt : i < xs.length
        · obtain ⟨u, hu⟩ := HFL.out.at_ hlt
          have cu : wr.cell? ⟨w.heap.size + 1 + 1, i, none⟩ = some u := (HO.out.cell i).trans hu
          have fu := HO.out.frozen i
          clear hu
          obtain ⟨bl, ol, x, rfl, _, hll, cx0, HX, _⟩ := ints_get l hlt
          have hst := hl.states x (List.mem_of_getElem? HX.out)
          obtain ⟨nx, rfl⟩ := Int.eq_ofNat_of_zero_le hst.1
          have hnx : nx < ls.length := by omega
          obtain ⟨bm, om, y, rfl, _, hlm, cy0, HY, _⟩ := ints_get m hnx
          have hy := hl.labels y (List.mem_of_getElem? HY.out)
          obtain ⟨ny, rfl⟩ := Int.eq_ofNat_of_zero_le hy.1
          obtain ⟨nq, rfl⟩ := Int.eq_ofNat_of_zero_le _hq0
          have cx := (hb2.cell (p := ⟨bl, ol + i, none⟩) hll).trans cx0
          have cy := (hb2.cell (p := ⟨bm, om + nx, none⟩) hlm).trans cy0
          have hnx' : (nx : Int) < (ls.length : Int) := by omega
          have hii : (i : Int) < (xs.length : Int) := by omega
          have hne1 : ¬ bm = w.heap.size + 1 + 1 := by omega
          have hne2 : ¬ bl = w.heap.size + 1 + 1 := by omega
          have hne3 : ¬ w.heap.size + 1 + 1 = bm := by omega
          have hne4 : ¬ w.heap.size + 1 + 1 = bl := by omega
          have hne5 : ¬ w.heap.size = w.heap.size + 1 + 1 := by omega
          have hne6 : ¬ w.heap.size + 1 + 1 = w.heap.size := by omega
          go_wp2_with fail
          go_region_held3 (fun w' => w'.cell? ⟨w.heap.size + 1, 0, none⟩ = some (.slice (some ⟨bl, ol, none⟩) xs.length d) ∧ w'.cell? ⟨bl, ol + i, none⟩ = some (.int .i64 nx) ∧ w'.cell? ⟨bm, om + nx, none⟩ = some (.int .i64 ny) ∧ w'.cell? ⟨w.heap.size, 1, none⟩ = some (.int .i64 nq)) (go_keep)
            (first | (go_at_call 77; refine (l2Has_any ny nq (by omega) (by omega) _).mono ?_; rintro e w4 ⟨rfl, rfl⟩))
          go_wp2_with fail
          go_roundw
          case rel => exact ⟨i + 1, _, by omega, by go_num, HO.out.set_ _ _, HFL.out.to hlt (by rw [labAt_of HX.out HY.out]), gb_drew (gb_set hgb _ _), by repeat (first | with_reducible exact Below.refl _ _ | with_reducible refine Below.setCell ?_ (by first | omega | (simp <;> omega)) _ | with_reducible refine Below.drew ?_ | with_reducible refine below_drewN ?_ _ | with_reducible refine Below.alloc ?_ (by first | omega | (simp <;> omega)) _ | with_reducible refine Below.trans ?_ (Below.mono (by assumption) (by first | omega | (simp <;> omega))))⟩
          case measure => simp [intOf]; omega
        · have hin : i = xs.length := by omega
          subst hin
          go_wp2_with fail
          go_ret
          refine ⟨_, rfl, ?_, ?_⟩
          · have e : holdL xs.length back (labAt xs ls) ⟨2, q, kids⟩ = (List.range xs.length).map fun k => hasBit (labAt xs ls k) q := by
              unfold holdL
              rw [Fm.hold_eq]
              rfl
            rw [e]
            exact HFL.out.all HO.out (by omega) (by omega)
          · exact hb2

set_option maxRecDepth 100000 in
set_option maxHeartbeats 4000000 in
theorem l31Places_6 (xs : List Int) (back : Nat) (ls : List Int) (hl : LassoOK xs back ls) (q : Int) (kids : List Fm) (hk : kids.length = 1) (hkok : ∀ x ∈ kids, x.ok = true) (ih : ∀ x ∈ kids, PlacesG xs back ls x) (_hq0 : 0 ≤ q) (_hq7 : q ≤ 7) (w : World) (v s lv : Value)
    (h : At w Any (forms kids) v) (l : At w Any (ints xs) s) (m : At w Any (ints ls) lv) :
    Calls Try.prog 62 #[.agg #[.int .i64 6, .int .i64 q, v], .agg #[s, .int .i64 back], lv] w fun e w' => ∃ v', e = .returned v' ∧ At w' (From w.heap.size) (bools (holdL xs.length back (labAt xs ls) ⟨6, q, kids⟩)) v' ∧ Below w.heap.size w w' := by
  obtain ⟨A, c, rfl, hn, hc⟩ := forms_slice h
  obtain ⟨L, d, rfl, hnl, hcl⟩ := ints_slice l
  obtain ⟨M, e, rfl, hnm, hcm⟩ := ints_slice m
  have hB0 := (Blk.new w 38 #[.int .i64 6, .int .i64 q, .slice A kids.length c]).alloc (.cells #[.slice L xs.length d, .int .i64 back] 27)
  have hC0 := Blk.new (w.alloc (.cells #[.int .i64 6, .int .i64 q, .slice A kids.length c] 38)) 27 #[.slice L xs.length d, .int .i64 back]
  rw [World.size_alloc] at hC0
  have hO0 := Blk.new ((w.alloc (.cells #[.int .i64 6, .int .i64 q, .slice A kids.length c] 38)).alloc (.cells #[.slice L xs.length d, .int .i64 back] 27)) 4 (madeCells #[.bool false] xs.length)
  rw [World.size_alloc, World.size_alloc] at hO0
  have hks : kids.length ≤ 2 := by omega
  have hxl := hl.le
  have hmk := run_make_row' (P := Try.prog) 89 4 _ 1 Try.underlying89 Try.infoBool rfl .i64 .i64 xs.length (by omega) (by omega)
  have IH := Lib.hid ih
  have HK := Lib.hid hkok
  have HKL := Lib.hid hk
  have HO0 := Lib.hid hO0
  clear ih hkok hk hO0
  go_enter Try.func62, Try.ntmps62
  go_wp2_with fail
  go_loopw [9, 10] (fun kv t wr => ∃ j : Nat, j ≤ kids.length ∧ t = .int .i64 j ∧ KidRow wr (w.heap.size + 1 + 1 + 1) kv j (kids.map (holdL xs.length back (labAt xs ls))) ∧ w.heap.size + 1 + 1 + 1 ≤ wr.heap.size ∧
      Blk wr w.heap.size 38 #[.int .i64 6, .int .i64 q, .slice A kids.length c] ∧ Blk wr (w.heap.size + 1) 27 #[.slice L xs.length d, .int .i64 back] ∧ Blk wr (w.heap.size + 1 + 1) 4 (madeCells #[.bool false] xs.length) ∧ Below w.heap.size w wr) (fun _ t _ => kids.length - (intOf t).toNat)
  case atStart =>
    refine ⟨0, Nat.zero_le _, rfl, KidRow.none_ _ (Nat.le_refl _) ?_ rfl, by simp, (hB0.alloc _).alloc _, (hC0.alloc _).alloc _, HO0.out.alloc _, by repeat (first | with_reducible exact Below.refl _ _ | with_reducible refine Below.setCell ?_ (by first | omega | (simp <;> omega)) _ | with_reducible refine Below.drew ?_ | with_reducible refine below_drewN ?_ _ | with_reducible refine Below.alloc ?_ (by first | omega | (simp <;> omega)) _ | with_reducible refine Below.trans ?_ (Below.mono (by assumption) (by first | omega | (simp <;> omega))))⟩
    have := Blk.new (((w.alloc (.cells #[.int .i64 6, .int .i64 q, .slice A kids.length c] 38)).alloc (.cells #[.slice L xs.length d, .int .i64 back] 27)).alloc (.cells (madeCells #[.bool false] xs.length) 4)) 89 #[]
    rwa [World.size_alloc, World.size_alloc, World.size_alloc] at this
  case round =>
    obtain ⟨j, hj, rfl, hkr, hsz, hB, hC, hOO, hb⟩ := hrel
    obtain ⟨kv, rfl⟩ : ∃ kv : Value, kv = u9 := ⟨_, rfl⟩
    have HKR := Lib.hid hkr
    have HOO := Lib.hid hOO
    clear hkr hmk HO0 hOO hB0 hC0
    by_cases hlt : j < kids.length
    · obtain ⟨b, off, f, u, rfl, _, hlb, kc1, kc2, kc3, hu, HX, _⟩ := forms_get h hlt
      obtain ⟨Au, cu, rfl, hnu, hcu⟩ := forms_slice hu
      have hmem := List.mem_of_getElem? HX.out
      have hc1 := (hb.cell (p := ⟨b, off + j * 3, none⟩) hlb).trans kc1
      have hc2 := (hb.cell (p := ⟨b, off + j * 3 + 1, none⟩) hlb).trans kc2
      have hc3 := (hb.cell (p := ⟨b, off + j * 3 + 2, none⟩) hlb).trans kc3
      obtain ⟨q1, q2, q3⟩ := hB.c3
      obtain ⟨q4, q5⟩ := hC.c2
      have hu1 := (hu.below hb).drew
      have l1 := (l.below hb).drew
      have m1 := (m.below hb).drew
      have hij : (j : Int) < (kids.length : Int) := by omega
      obtain ⟨i0, hi, hz0, hz1, hz2⟩ := info_parts Try.infoBools
      go_wp2_with fail
      go_region_held3 (fun w' => w'.cell? ⟨w.heap.size, 2, none⟩ = some (.slice (some ⟨b, off, none⟩) kids.length c) ∧ w'.cell? ⟨w.heap.size + 1, 0, none⟩ = some (.slice L xs.length d) ∧ w'.cell? ⟨w.heap.size + 1, 1, none⟩ = some (.int .i64 back) ∧ w'.cell? ⟨b, off + j * 3, none⟩ = some (.int .i64 f.kind) ∧ w'.cell? ⟨b, off + j * 3 + 1, none⟩ = some (.int .i64 f.prop) ∧ w'.cell? ⟨b, off + j * 3 + 2, none⟩ = some (.slice Au f.kids.length cu)) (go_keep)
        (first | (go_at_call 62; refine (IH.out f hmem _ _ _ _ ?_ ?_ ?_ (HK.out f hmem)).mono ?_; (exact hu1); (exact l1); (exact m1); rintro e w1 ⟨v', rfl, ha, hb1⟩; obtain ⟨A', c', rfl, hn', hc'⟩ := bools_slice ha; have z1 := hb1.size; simp at z1; obtain ⟨b1, b2⟩ := bcell hb1; have y1 := ((hB.drew.next hb1).alloc (.cells #[.slice A' (holdL xs.length back (labAt xs ls) f).length c'] 89)).c3; have y2 := ((hC.drew.next hb1).alloc (.cells #[.slice A' (holdL xs.length back (labAt xs ls) f).length c'] 89)).c2; obtain ⟨y11, y12, y13⟩ := y1; obtain ⟨y21, y22⟩ := y2; obtain ⟨y31, y32, y33⟩ := (hB.drew.next hb1).c3; obtain ⟨y41, y42⟩ := (hC.drew.next hb1).c2; have x1 := (hb1.cell (p := ⟨b, off + j * 3, none⟩) (by simp; omega)).trans hc1; have x2 := (hb1.cell (p := ⟨b, off + j * 3 + 1, none⟩) (by simp; omega)).trans hc2; have x3 := (hb1.cell (p := ⟨b, off + j * 3 + 2, none⟩) (by simp; omega)).trans hc3; clear b1 b2; have xa1 := (World.cell?_alloc_lt w1 (.cells #[.slice A' (holdL xs.length back (labAt xs ls) f).length c'] 89) ⟨b, off + j * 3, none⟩ (by show b < w1.heap.size; omega)).trans x1; have xa2 := (World.cell?_alloc_lt w1 (.cells #[.slice A' (holdL xs.length back (labAt xs ls) f).length c'] 89) ⟨b, off + j * 3 + 1, none⟩ (by show b < w1.heap.size; omega)).trans x2; have xa3 := (World.cell?_alloc_lt w1 (.cells #[.slice A' (holdL xs.length back (labAt xs ls) f).length c'] 89) ⟨b, off + j * 3 + 2, none⟩ (by show b < w1.heap.size; omega)).trans x3; have HKR1 := Lib.hid (((HKR.out.below ((Below.refl _ _).drew)).below hb1).below ((Below.refl w1.heap.size w1).alloc (Nat.le_refl _) (.cells #[.slice A' (holdL xs.length back (labAt xs ls) f).length c'] 89))); obtain ⟨vs, hown, hvl, hvs⟩ := HKR1.out; have HOW := Lib.hid hown; have HNW := Lib.hid (World.news_of_block (heap_alloc_new w1 (.cells #[.slice A' (holdL xs.length back (labAt xs ls) f).length c'] 89))); clear hown hvs) | (refine step_append_lies _ (by rfl) _ _ _ (by rfl) (w.heap.size + 1 + 1 + 1) 89 i0 (.slice none 0 0) 1 24 Try.underlying107 hi hz0 hz1 hz2 rfl (by omega) kv j vs (by rfl) HOW.out ⟨w1.heap.size, 0, none⟩ 1 1 [.slice A' (holdL xs.length back (labAt xs ls) f).length c'] (by rfl) rfl HNW.out (by simp [Value.oneCell']) (by omega) (by unfold maxLen; omega) (by omega) (by simp; omega) (w1.heap.size + 1) (World.size_alloc _ _) ?_; intro g cap w3 hown3 hgrow3 hat3 hlt3; have HR := Lib.hid ((HKR.out.below ((Below.refl _ _).drew)).round (by show _ ≤ wr.heap.size; omega) hb1 ha (by simp [HX.out]) vs HOW.out hown3 hgrow3 hat3); obtain ⟨y51, y52, y53⟩ := (HR.out.2.2 _ _ _ (by omega) hB.drew).c3; obtain ⟨y61, y62⟩ := (HR.out.2.2 _ _ _ (by omega) hC.drew).c2; have x1 := (HR.out.2.1.cell (p := ⟨b, off + j * 3, none⟩) (by show b < _; omega)).trans hc1; have x2 := (HR.out.2.1.cell (p := ⟨b, off + j * 3 + 1, none⟩) (by show b < _; omega)).trans hc2; have x3 := (HR.out.2.1.cell (p := ⟨b, off + j * 3 + 2, none⟩) (by show b < _; omega)).trans hc3))
      go_wp2_with fail
      go_roundw
      case rel =>
        obtain ⟨r1, r2, r3⟩ := HR.out
        have z3 := r2.size
        simp at z3
        exact ⟨j + 1, by omega, by go_num, r1, by omega, r3 _ _ _ (by omega) hB.drew, r3 _ _ _ (by omega) hC.drew, r3 _ _ _ (by omega) HOO.out.drew, by repeat (first | with_reducible exact Below.refl _ _ | with_reducible refine Below.setCell ?_ (by first | omega | (simp <;> omega)) _ | with_reducible refine Below.drew ?_ | with_reducible refine below_drewN ?_ _ | with_reducible refine Below.alloc ?_ (by first | omega | (simp <;> omega)) _ | with_reducible refine Below.trans ?_ (Below.mono (by assumption) (by first | omega | (simp <;> omega))))⟩
      case measure => simp [intOf]; omega
    · have hjk : j = kids.length := by omega
      subst hjk
      obtain ⟨wo, rfl⟩ : ∃ wo : World, wo = wr := ⟨_, rfl⟩
      obtain ⟨q1, q2, q3⟩ := hB.c3
      have hpos := hl.pos
      have hbk := hl.back
      clear hlt hj
      go_wp2_with fail
      go_loopw [11] (fun t w2 => ∃ (i : Nat) (cs : Array Value), i ≤ xs.length ∧ t = .int .i64 i ∧ Blk w2 (w.heap.size + 1 + 1) 4 cs ∧ Filled cs xs.length i (fun k => kidH xs back ls kids 0 (nxt xs.length back k)) ∧ wo.grownBy w2 (some (w.heap.size + 1 + 1)) ∧ Below w.heap.size w w2) (fun t _ => xs.length - (intOf t).toNat)
      case atStart => exact ⟨0, _, Nat.zero_le _, rfl, HOO.out, Filled.start _ _, World.grownBy.refl _ _, hb⟩
      case round =>
        obtain ⟨i, cs, hi, rfl, hO, hfl, hgb, hb2⟩ := hrel
        have HO := Lib.hid hO
        have HFL := Lib.hid hfl
        have hBr := hB.grown hgb (fun e => by injection e with e; omega)
        have hCr := hC.grown hgb (fun e => by injection e with e; omega)
        obtain ⟨p1, p2, p3⟩ := hBr.c3
        obtain ⟨p4, p5⟩ := hCr.c2
        have HKK : Hid (∀ x, w.heap.size + 1 + 1 + 1 ≤ x → x < wo.heap.size → wr.heap[x]? = wo.heap[x]?) := fun x h1 h2 => hgb.block x h2 (by simp; omega)
        have zr := hgb.size
        clear hO hfl
        by_cases hlt : i < xs.length
        · obtain ⟨u, hu⟩ := HFL.out.at_ hlt
          have cu : wr.cell? ⟨w.heap.size + 1 + 1, i, none⟩ = some u := (HO.out.cell i).trans hu
          have fu := HO.out.frozen i
          clear hu
          have hj1 : 0 < kids.length := by rw [HKL.out]; omega
          have hnx := nxt_lt (i := i) hbk
          obtain ⟨g, cap, b0, o0, c0, rfl, hg0, hg, hb0, hb0', k1, hc0, k2⟩ := HKR.out.cellS HKK.out hj1 hnx
          have HNX : Hid (∀ (W : World) (s : Value), At W Any (ints xs) s → Calls Try.prog 65 #[.agg #[s, .int .i64 back], .int .i64 i] W fun e w' => e = .returned (.int .i64 (nxt xs.length back i : Nat)) ∧ Below W.heap.size W w') := fun W s hs => afterN xs back i hlt W s hs
          generalize hgn : nxt xs.length back i = ni at *
          have HGN := Lib.hid hgn
          clear hgn
          have lr := (l.below hb2).drew
          have hii : (i : Int) < (xs.length : Int) := by omega
          have hni : (ni : Int) < (xs.length : Int) := by omega
          have hne1 : ¬ g = w.heap.size + 1 + 1 := by omega
          have hne2 : ¬ b0 = w.heap.size + 1 + 1 := by omega
          have hne3 : ¬ w.heap.size + 1 + 1 = g := by omega
          have hne4 : ¬ w.heap.size + 1 + 1 = b0 := by omega
          go_wp2_with fail
          go_region_held3 (fun w' => w'.cell? ⟨g, 0, none⟩ = some (.slice (some ⟨b0, o0, none⟩) xs.length c0) ∧ w'.cell? ⟨b0, o0 + ni, none⟩ = some (.bool (kidH xs back ls kids 0 ni)) ∧ w'.cell? ⟨w.heap.size + 1, 0, none⟩ = some (.slice L xs.length d) ∧ w'.cell? ⟨w.heap.size + 1, 1, none⟩ = some (.int .i64 back)) (go_keep)
            (first | (go_at_call 65; refine (HNX.out _ _ ?_).mono ?_; (exact lr); rintro e w4 ⟨rfl, hb4⟩; have k1 := (hb4.cell (p := ⟨g, 0, none⟩) (by show g < wr.heap.size; omega)).trans k1; have k2 := (hb4.cell (p := ⟨b0, o0 + ni, none⟩) (by show b0 < wr.heap.size; omega)).trans k2; obtain ⟨p4, p5⟩ := (hCr.drew.next hb4).c2; have HO4 := Lib.hid (HO.out.drew.next hb4); have cu := (hb4.cell (p := ⟨w.heap.size + 1 + 1, i, none⟩) (by show w.heap.size + 1 + 1 < wr.heap.size; omega)).trans cu; have fu := HO4.out.frozen i))
          go_wp2_with fail
          go_roundw
          case rel => exact ⟨i + 1, _, by omega, by go_num, HO4.out.set_ _ _, HFL.out.to hlt (by rw [HGN.out]), gb_set (gb_below (gb_drew hgb) hb4) _ _, by have z4 := hb4.size; simp at z4; repeat (first | with_reducible exact Below.refl _ _ | with_reducible refine Below.setCell ?_ (by first | omega | (simp <;> omega)) _ | with_reducible refine Below.drew ?_ | with_reducible refine below_drewN ?_ _ | with_reducible refine Below.alloc ?_ (by first | omega | (simp <;> omega)) _ | with_reducible refine Below.trans ?_ (Below.mono (by assumption) (by first | omega | (simp <;> omega))))⟩
          case measure => simp [intOf]; omega
        · have hin : i = xs.length := by omega
          subst hin
          go_wp2_with fail
          go_ret
          refine ⟨_, rfl, ?_, ?_⟩
          · have e : holdL xs.length back (labAt xs ls) ⟨6, q, kids⟩ = (List.range xs.length).map fun k => kidH xs back ls kids 0 (nxt xs.length back k) := by
              unfold holdL
              rw [Fm.hold_eq]
              rfl
            rw [e]
            exact HFL.out.all HO.out (by omega) (by omega)
          · exact hb2

end Go.Proofs.Ytagnfckihdlhpaa

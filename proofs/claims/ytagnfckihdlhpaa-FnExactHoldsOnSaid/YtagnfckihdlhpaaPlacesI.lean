/-
  What the program's places computes: the first loop.
-/
import Derived.Test.YtagnfckihdlhpaaBools
namespace Go.Proofs.Ytagnfckihdlhpaa
open Go.RowKit

/-- What HoldsOn asks of a lasso and of labels. -/
structure LassoOK (xs : List Int) (back : Nat) (ls : List Int) : Prop where
  pos : 1 ≤ xs.length
  le : xs.length ≤ 40
  back : back < xs.length
  states : ∀ x ∈ xs, 0 ≤ x ∧ x < ls.length
  labels : ∀ l ∈ ls, 0 ≤ l ∧ l ≤ 255

def labAt (xs ls : List Int) (i : Nat) : Int := ls.getD (xs.getD i 0).toNat 0

theorem Try.infoBools : (Try.prog.info? 89).map (fun i => (i.zero, i.size, i.bytes)) = some (some (.slice none 0 0), 1, 24) := by kernel_rfl
theorem Try.infoBool : (Try.prog.info? 4).map (fun i => (i.zero, i.size, i.bytes)) = some (some (.bool false), 1, 1) := by kernel_rfl

/-- The answer of the formula below at place t of a node. -/
def kidH (xs : List Int) (back : Nat) (ls : List Int) (kids : List Fm) (t k : Nat) : Bool := ((kids.map (Fm.hold xs.length back (labAt xs ls))).getD t fun _ => false) k

theorem KidRow.cell {w w2 : World} {B : Nat} {kv : Value} {j : Nat} {xs : List Int} {back : Nat} {ls : List Int} {kids : List Fm} (h : KidRow w B kv j (kids.map (holdL xs.length back (labAt xs ls)))) (hb : Below w.heap.size w w2) {t k : Nat} (ht : t < j) (hk : k < xs.length) :
    ∃ g cap b off c, kv = .slice (some ⟨g, 0, none⟩) j cap ∧ g < w.heap.size ∧ b < w.heap.size ∧ w2.cell? ⟨g, t, none⟩ = some (.slice (some ⟨b, off, none⟩) xs.length c) ∧ xs.length ≤ c ∧ w2.cell? ⟨b, off + k, none⟩ = some (.bool (kidH xs back ls kids t k)) := by
  obtain ⟨g, cap, bs, v, e, _, _, hg, hbs, hc, ha⟩ := h.get ht
  have ek : ∃ f, kids[t]? = some f ∧ bs = holdL xs.length back (labAt xs ls) f := by
    rw [List.getElem?_map] at hbs
    cases hf : kids[t]? with
    | none => simp [hf] at hbs
    | some f => simp [hf] at hbs; exact ⟨f, rfl, hbs.symm⟩
  obtain ⟨f, hf, rfl⟩ := ek
  obtain ⟨Av, cv, rfl, hcv, _⟩ := bools_slice ha
  rw [holdL_len] at hcv
  obtain ⟨b, off, x, rfl, _, hlb, hx, HX⟩ := bools_get ha (k := k) (by rw [holdL_len]; exact hk)
  have ex := holdL_at HX.out
  have ekid : kidH xs back ls kids t k = x := by unfold kidH; simp [List.getD, hf, ex]
  refine ⟨g, cap, b, off, cv, e, hg, hlb, ?_, hcv, ?_⟩
  · rw [hb.cell (p := ⟨g, t, none⟩) hg, hc, holdL_len]
  · rw [hb.cell (p := ⟨b, off + k, none⟩) hlb, hx, ekid]

def PlacesF (xs : List Int) (back : Nat) (ls : List Int) (f : Fm) : Prop := ∀ (w : World) (v s lv : Value), At w Any (forms f.kids) v → At w Any (ints xs) s → At w Any (ints ls) lv → f.ok = true →
    Calls Try.prog 60 #[.agg #[.int .i64 f.kind, .int .i64 f.prop, v], .agg #[s, .int .i64 back], lv] w fun e w' => ∃ v', e = .returned v' ∧ At w' (From w.heap.size) (bools (holdL xs.length back (labAt xs ls) f)) v' ∧ Below w.heap.size w w'

set_option maxRecDepth 100000 in
set_option maxHeartbeats 4000000 in
theorem places_1 (xs : List Int) (back : Nat) (ls : List Int) (hl : LassoOK xs back ls) (q : Int) (kids : List Fm) (hk : kids.length = 0) (hkok : ∀ x ∈ kids, x.ok = true) (ih : ∀ x ∈ kids, PlacesF xs back ls x) (_hq0 : 0 ≤ q) (_hq7 : q ≤ 7) (w : World) (v s lv : Value)
    (h : At w Any (forms kids) v) (l : At w Any (ints xs) s) (m : At w Any (ints ls) lv) :
    Calls Try.prog 60 #[.agg #[.int .i64 1, .int .i64 q, v], .agg #[s, .int .i64 back], lv] w fun e w' => ∃ v', e = .returned v' ∧ At w' (From w.heap.size) (bools (holdL xs.length back (labAt xs ls) ⟨1, q, kids⟩)) v' ∧ Below w.heap.size w w' := by
  obtain ⟨A, c, rfl, hn, hc⟩ := forms_slice h
  obtain ⟨L, d, rfl, hnl, hcl⟩ := ints_slice l
  obtain ⟨M, e, rfl, hnm, hcm⟩ := ints_slice m
  have hB0 := (Blk.new w 38 #[.int .i64 1, .int .i64 q, .slice A kids.length c]).alloc (.cells #[.slice L xs.length d, .int .i64 back] 27)
  have hC0 := Blk.new (w.alloc (.cells #[.int .i64 1, .int .i64 q, .slice A kids.length c] 38)) 27 #[.slice L xs.length d, .int .i64 back]
  rw [World.size_alloc] at hC0
  have hks : kids.length ≤ 2 := by omega
  have hxl := hl.le
  have IH := Lib.hid ih
  have HK := Lib.hid hkok
  have HKL := Lib.hid hk
  clear ih hkok hk
  go_enter Try.func60, Try.ntmps60
  go_wp2_with fail
  go_loopw [7, 20] (fun kv t wr => ∃ j : Nat, j ≤ kids.length ∧ t = .int .i64 j ∧ KidRow wr (w.heap.size + 1 + 1) kv j (kids.map (holdL xs.length back (labAt xs ls))) ∧ w.heap.size + 1 + 1 ≤ wr.heap.size ∧
      Blk wr w.heap.size 38 #[.int .i64 1, .int .i64 q, .slice A kids.length c] ∧ Blk wr (w.heap.size + 1) 27 #[.slice L xs.length d, .int .i64 back] ∧ Below w.heap.size w wr) (fun _ t _ => kids.length - (intOf t).toNat)
  case atStart =>
    refine ⟨0, Nat.zero_le _, rfl, KidRow.none_ _ (Nat.le_refl _) ?_ rfl, by simp, hB0.alloc _, hC0.alloc _, by repeat (first | with_reducible exact Below.refl _ _ | with_reducible refine Below.setCell ?_ (by first | omega | (simp <;> omega)) _ | with_reducible refine Below.drew ?_ | with_reducible refine below_drewN ?_ _ | with_reducible refine Below.alloc ?_ (by first | omega | (simp <;> omega)) _ | with_reducible refine Below.trans ?_ (Below.mono (by assumption) (by first | omega | (simp <;> omega))))⟩
    have := Blk.new ((w.alloc (.cells #[.int .i64 1, .int .i64 q, .slice A kids.length c] 38)).alloc (.cells #[.slice L xs.length d, .int .i64 back] 27)) 89 #[]
    rwa [World.size_alloc, World.size_alloc] at this
  case round =>
    obtain ⟨j, hj, rfl, hkr, hsz, hB, hC, hb⟩ := hrel
    obtain ⟨kv, rfl⟩ : ∃ kv : Value, kv = u7 := ⟨_, rfl⟩
    have HKR := Lib.hid hkr
    clear hkr
    by_cases hlt : j < kids.length
    · obtain ⟨b, off, f, u, rfl, _, hlb, hc1, hc2, hc3, hu, HX, _⟩ := forms_get (h.below hb) hlt
      obtain ⟨Au, cu, rfl, hnu, hcu⟩ := forms_slice hu
      have hmem := List.mem_of_getElem? HX.out
      obtain ⟨q4, q5⟩ := hC.c2
      have hC1 := hC.alloc (.cells #[.int .i64 f.kind, .int .i64 f.prop, .slice Au f.kids.length cu] 38)
      have l1 := (l.below hb).alloc (.cells #[.int .i64 f.kind, .int .i64 f.prop, .slice Au f.kids.length cu] 38)
      have m1 := (m.below hb).alloc (.cells #[.int .i64 f.kind, .int .i64 f.prop, .slice Au f.kids.length cu] 38)
      have hu1 := hu.alloc (.cells #[.int .i64 f.kind, .int .i64 f.prop, .slice Au f.kids.length cu] 38)
      have HKR1 := Lib.hid (HKR.out.below ((Below.refl wr.heap.size wr).alloc (Nat.le_refl _) (.cells #[.int .i64 f.kind, .int .i64 f.prop, .slice Au f.kids.length cu] 38)))
      obtain ⟨_, _⟩ := hC1.c2
      go_wp2_with fail
      refine (IH.out f hmem _ _ _ _ hu1 l1 m1 (HK.out f hmem)).mono ?_
      rintro e w1 ⟨v', rfl, ha, hb1⟩
      obtain ⟨A', c', rfl, hn', hc'⟩ := bools_slice ha
      have z1 := hb1.size
      simp at z1
      have hBs : KidRow (w1.alloc (.cells #[.slice A' (holdL xs.length back (labAt xs ls) f).length c'] 89)) (w.heap.size + 1 + 1) kv j (kids.map (holdL xs.length back (labAt xs ls))) := (HKR1.out.below hb1).below ((Below.refl _ _).alloc (Nat.le_refl _) _)
      obtain ⟨vs, hown, hvl, hvs⟩ := hBs
      have HOW := Lib.hid hown
      have hnews := World.news_of_block (heap_alloc_new w1 (.cells #[.slice A' (holdL xs.length back (labAt xs ls) f).length c'] 89))
      have HNW := Lib.hid hnews
      have HVS := Lib.hid hvs
      obtain ⟨i0, hi, hz0, hz1, hz2⟩ := info_parts Try.infoBools
      clear hown hnews hvs
      go_wp2_with (at_builtin; refine wpList_append_lies _ rfl _ _ _ rfl (w.heap.size + 1 + 1) 89 i0 (.slice none 0 0) 1 24 Try.underlying107 hi hz0 hz1 hz2 rfl (by omega) kv j vs rfl HOW.out ⟨w1.heap.size, 0, none⟩ 1 1 [.slice A' (holdL xs.length back (labAt xs ls) f).length c'] rfl rfl HNW.out (by simp [Value.oneCell']) (by omega) (by unfold maxLen; omega) (by omega) (by simp; omega) (w1.heap.size + 1) (World.size_alloc _ _) ?_; intro g cap w3 hown3 hgrow3 hat3 hlt3)
      go_wp2_with fail
      go_roundw
      case rel =>
        obtain ⟨r1, r2, r3⟩ := HKR1.out.round (by simp; omega) hb1 ha (by simp [HX.out]) vs HOW.out hown3 hgrow3 hat3
        have z3 := r2.size
        simp at z3
        exact ⟨j + 1, by omega, by go_num, r1, by omega, r3 _ _ _ (by omega) (hB.alloc _), r3 _ _ _ (by omega) hC1, by repeat (first | with_reducible exact Below.refl _ _ | with_reducible refine Below.setCell ?_ (by first | omega | (simp <;> omega)) _ | with_reducible refine Below.drew ?_ | with_reducible refine below_drewN ?_ _ | with_reducible refine Below.alloc ?_ (by first | omega | (simp <;> omega)) _ | with_reducible refine Below.trans ?_ (Below.mono (by assumption) (by first | omega | (simp <;> omega))))⟩
      case measure => simp [intOf]; omega
    · have hjk : j = kids.length := by omega
      subst hjk
      have hmk := run_make_row' (P := Try.prog) 89 4 _ 1 Try.underlying89 Try.infoBool rfl .i64 .i64 xs.length (by omega) (by omega)
      have hbo : Below wr.heap.size wr ((wr.alloc (.cells #[.int .i64 xs.length] 3)).alloc (.cells (madeCells #[.bool false] xs.length) 4)) := by repeat (first | with_reducible exact Below.refl _ _ | with_reducible refine Below.setCell ?_ (by first | omega | (simp <;> omega)) _ | with_reducible refine Below.drew ?_ | with_reducible refine below_drewN ?_ _ | with_reducible refine Below.alloc ?_ (by first | omega | (simp <;> omega)) _ | with_reducible refine Below.trans ?_ (Below.mono (by assumption) (by first | omega | (simp <;> omega))))
      have hB2 := hB.next hbo
      have hC2 := hC.next hbo
      obtain ⟨q1, q2, q3⟩ := hB2.c3
      obtain ⟨q4, q5⟩ := hC2.c2
      obtain ⟨q6, q7⟩ := hC.c2
      have hlr := l.below hb
      have hmr := m.below hb
      have hN0 := (Blk.new wr 3 #[.int .i64 xs.length]).alloc (.cells (madeCells #[.bool false] xs.length) 4)
      have hO0 := Blk.new (wr.alloc (.cells #[.int .i64 xs.length] 3)) 4 (madeCells #[.bool false] xs.length)
      rw [World.size_alloc] at hO0
      have HO0 := Lib.hid hO0
      have HN0 := Lib.hid hN0
      have hpos := hl.pos
      have hbk := hl.back
      clear hO0 hN0 hC0 hB0 hlt hj
      obtain ⟨wo, rfl⟩ : ∃ wo : World, wo = wr := ⟨_, rfl⟩
      go_wp2_with fail
      go_loopw [41] (fun t w2 => ∃ (i : Nat) (cs : Array Value), i ≤ xs.length ∧ t = .int .i64 i ∧ Blk w2 (wo.heap.size + 1) 4 cs ∧ Filled cs xs.length i (fun k => true) ∧ Blk w2 wo.heap.size 3 #[.int .i64 xs.length] ∧ Below wo.heap.size wo w2) (fun t _ => xs.length - (intOf t).toNat)
      case atStart => exact ⟨0, _, Nat.zero_le _, rfl, HO0.out, Filled.start _ _, HN0.out, hbo⟩
      case round =>
        obtain ⟨i, cs, hi, rfl, hO, hfl, hN, hb2⟩ := hrel
        have HO := Lib.hid hO
        have HFL := Lib.hid hfl
        obtain ⟨p1, p2, p3⟩ := (hB.next hb2).c3
        obtain ⟨p4, p5⟩ := (hC.next hb2).c2
        clear hO hfl
        by_cases hlt : i < xs.length
        · obtain ⟨bl, ol, x, rfl, _, hll, cx, HX, _⟩ := ints_get (hlr.below hb2) hlt
          obtain ⟨u, hu⟩ := HFL.out.at_ hlt
          have cu : wr.cell? ⟨wo.heap.size + 1, i, none⟩ = some u := (HO.out.cell i).trans hu
          have fu := HO.out.frozen i
          clear hu
          go_wp2_with fail
          go_roundw
          case rel => exact ⟨i + 1, _, by omega, by go_num, HO.out.set_ _ _, HFL.out.step hlt, hN.far (by simp) _, by repeat (first | with_reducible exact Below.refl _ _ | with_reducible refine Below.setCell ?_ (by first | omega | (simp <;> omega)) _ | with_reducible refine Below.drew ?_ | with_reducible refine below_drewN ?_ _ | with_reducible refine Below.alloc ?_ (by first | omega | (simp <;> omega)) _ | with_reducible refine Below.trans ?_ (Below.mono (by assumption) (by first | omega | (simp <;> omega))))⟩
          case measure => simp [intOf]; omega
        · have hin : i = xs.length := by omega
          subst hin
          go_wp2_with fail
          go_ret
          refine ⟨_, rfl, ?_, ?_⟩
          · have e : holdL xs.length back (labAt xs ls) ⟨1, q, kids⟩ = (List.range xs.length).map fun _ => true := by
              unfold holdL
              rw [Fm.hold_eq]
              rfl
            rw [e]
            exact HFL.out.all HO.out (by omega) (by omega)
          · repeat (first | with_reducible exact Below.refl _ _ | with_reducible refine Below.setCell ?_ (by first | omega | (simp <;> omega)) _ | with_reducible refine Below.drew ?_ | with_reducible refine below_drewN ?_ _ | with_reducible refine Below.alloc ?_ (by first | omega | (simp <;> omega)) _ | with_reducible refine Below.trans ?_ (Below.mono (by assumption) (by first | omega | (simp <;> omega))))

end Go.Proofs.Ytagnfckihdlhpaa

/-
  What szGraph, toGraph and eqGraph compute.
-/
import Derived.Test.YtagnfckihdlhpaaTermEq
namespace Go.Proofs.Ytagnfckihdlhpaa
open Go.RowKit

structure Gr where
  states : List Tm
  edges : List (List Int)
  whole : Bool
def Gr.total (g : Gr) : Nat := tmTotals g.states + rowTotals g.edges

set_option maxHeartbeats 400000 in
theorem szGraph_any (g : Gr) (left : Int) (w : World) (v u : Value) (h : At w Any (terms g.states) v) (h' : At w Any (rows g.edges) u) (h0 : -1 ≤ left) (h1 : left ≤ 1048576) :
    Calls Try.prog 20 #[.agg #[v, u, .bool g.whole], .int .i64 left] w fun e w' => e = .returned (.int .i64 (took left g.total)) ∧ Below w.heap.size w w' := by
  obtain ⟨A, c, rfl, hn, hc⟩ := terms_slice h
  obtain ⟨A', c', rfl, hn', hc'⟩ := rows_slice h'
  have hB0 := Blk.new w 45 #[.slice A g.states.length c, .slice A' g.edges.length c', .bool g.whole]
  by_cases hneg : took left (tmTotals g.states) < 0
  · have HR : Hid (took left g.total = -1) := by
      show took left g.total = -1
      unfold Gr.total
      rw [Int.natCast_add]
      exact took_more (by omega) hneg
    go_enter Try.func20, Try.ntmps20
    go_wp2_with fail
    refine (szTermS_any _ _ _ Any _ (h.alloc _) (by omega) (by omega)).mono ?_
    rintro e w1 ⟨rfl, hb1⟩
    go_wp2_with fail
    go_ret
    exact ⟨ret_int HR.out.symm, by repeat (first | with_reducible exact Below.refl _ _ | with_reducible refine Below.setCell ?_ (by first | omega | (simp <;> omega)) _ | with_reducible refine Below.drew ?_ | with_reducible refine below_drewN ?_ _ | with_reducible refine Below.alloc ?_ (by first | omega | (simp <;> omega)) _ | with_reducible refine Below.trans ?_ (Below.mono (by assumption) (by first | omega | (simp <;> omega))))⟩
  · have hr := took_range (left := left) (n := tmTotals g.states) h1 (by omega)
    have HR : Hid (took left g.total = took (took left (tmTotals g.states)) (rowTotals g.edges)) := by
      show took left g.total = _
      unfold Gr.total
      rw [Int.natCast_add]
      exact (took_took (by omega)).symm
    go_enter Try.func20, Try.ntmps20
    go_wp2_with fail
    refine (szTermS_any _ _ _ Any _ (h.alloc _) (by omega) (by omega)).mono ?_
    rintro e w1 ⟨rfl, hb1⟩
    have h2 := (h'.alloc _).below hb1
    have hB1 := hB0.next hb1
    obtain ⟨_, _, _⟩ := hB1.c3
    go_wp2_with fail
    refine (szIntSS_any _ _ _ Any _ h2 (by omega) (by omega)).mono ?_
    rintro e w2 ⟨rfl, hb2⟩
    have z := hb1.size
    simp at z
    go_wp2_with fail
    all_goals go_ret
    · exact ⟨ret_int (by rw [HR.out]; exact (took_neg ‹_›).symm), by repeat (first | with_reducible exact Below.refl _ _ | with_reducible refine Below.setCell ?_ (by first | omega | (simp <;> omega)) _ | with_reducible refine Below.drew ?_ | with_reducible refine below_drewN ?_ _ | with_reducible refine Below.alloc ?_ (by first | omega | (simp <;> omega)) _ | with_reducible refine Below.trans ?_ (Below.mono (by assumption) (by first | omega | (simp <;> omega))))⟩
    · exact ⟨ret_int HR.out.symm, by repeat (first | with_reducible exact Below.refl _ _ | with_reducible refine Below.setCell ?_ (by first | omega | (simp <;> omega)) _ | with_reducible refine Below.drew ?_ | with_reducible refine below_drewN ?_ _ | with_reducible refine Below.alloc ?_ (by first | omega | (simp <;> omega)) _ | with_reducible refine Below.trans ?_ (Below.mono (by assumption) (by first | omega | (simp <;> omega))))⟩

set_option maxHeartbeats 400000 in
theorem toGraph_any (g : Gr) (w : World) (v u : Value) (h : At w Any (terms g.states) v) (h' : At w Any (rows g.edges) u) (h1 : g.total ≤ 1048576) :
    Calls Try.prog 22 #[.agg #[v, u, .bool g.whole]] w fun e w' => ∃ v' u', e = .returned (.agg #[v', u', .bool g.whole]) ∧ At w' (From w.heap.size) (terms g.states) v' ∧ At w' (From w.heap.size) (rows g.edges) u' ∧ Below w.heap.size w w' := by
  obtain ⟨A, c, rfl, hn, hc⟩ := terms_slice h
  obtain ⟨A', c', rfl, hn', hc'⟩ := rows_slice h'
  unfold Gr.total at h1
  have o' := h'.old
  have hB0 := ((Blk.new w 45 #[.slice A g.states.length c, .slice A' g.edges.length c', .bool g.whole]).alloc (.cells #[.slice none 0 0, .slice none 0 0, .bool false] 50)).alloc (.cells #[.slice none 0 0, .slice none 0 0, .bool false] 50)
  have hR0 := (Blk.new (w.alloc (.cells #[.slice A g.states.length c, .slice A' g.edges.length c', .bool g.whole] 45)) 50 #[.slice none 0 0, .slice none 0 0, .bool false]).alloc (.cells #[.slice none 0 0, .slice none 0 0, .bool false] 50)
  have hO0 := Blk.new ((w.alloc (.cells #[.slice A g.states.length c, .slice A' g.edges.length c', .bool g.whole] 45)).alloc (.cells #[.slice none 0 0, .slice none 0 0, .bool false] 50)) 50 #[.slice none 0 0, .slice none 0 0, .bool false]
  rw [World.size_alloc] at hR0
  rw [World.size_alloc, World.size_alloc] at hO0
  go_enter Try.func22, Try.ntmps22
  go_wp2_with fail
  refine (toTermS_any _ _ Any _ (((h.alloc _).alloc _).alloc _) (by omega)).mono ?_
  rintro e w1 ⟨v1, rfl, ha1, hb1⟩
  obtain ⟨A1, c1, rfl, hn1, hcc1⟩ := terms_slice ha1
  have z := hb1.size
  simp at z
  have hB1 := hB0.next hb1
  have hR1 := hR0.next hb1
  have hO1 := hO0.next hb1
  have h2 := ((((o'.alloc _).alloc _).alloc _).below hb1).setCell (p := ⟨w.heap.size + 1 + 1, 0, none⟩) (by simp only [Old]; omega) (.slice A1 g.states.length c1)
  have hB2 := hB1.far (p := ⟨w.heap.size + 1 + 1, 0, none⟩) (by simp only; omega) (.slice A1 g.states.length c1)
  have hR2 := hR1.far (p := ⟨w.heap.size + 1 + 1, 0, none⟩) (by simp only; omega) (.slice A1 g.states.length c1)
  have hO2 : Blk (w1.setCell ⟨w.heap.size + 1 + 1, 0, none⟩ (.slice A1 g.states.length c1)) (w.heap.size + 1 + 1) 50 #[.slice A1 g.states.length c1, .slice none 0 0, .bool false] := hO1.set_ 0 _
  have ha2 := ha1.setCell (p := ⟨w.heap.size + 1 + 1, 0, none⟩) (by simp [From]) (.slice A1 g.states.length c1)
  obtain ⟨_, _, _⟩ := hB1.c3
  obtain ⟨_, _, _⟩ := hO1.c3
  have f0 := hO1.frozen 0
  go_wp2_with fail
  refine (toIntSS_any _ _ _ _ h2 (by omega)).mono ?_
  rintro e w3 ⟨v3, rfl, ha3, hb3⟩
  obtain ⟨A3, c3, rfl, hn3, hcc3⟩ := rows_slice ha3
  have z3 := hb3.size
  simp at z3
  have hB3 := hB2.next hb3
  have hR3 := hR2.next hb3
  have hO3 := hO2.next hb3
  have ha4 := ha2.below hb3
  obtain ⟨_, _, _⟩ := hB3.c3
  obtain ⟨r0, r1, r2⟩ := hR3.c3
  obtain ⟨_, _, _⟩ := hO3.c3
  have f30 := hO3.frozen 1
  have f31 := hO3.frozen 2
  have f32 := hR3.frozen 0
  have f33 := hR3.frozen 1
  have f34 := hR3.frozen 2
  go_wp2_with fail
  refine bodyPost_ret (v := .agg #[.slice A1 g.states.length c1, .slice A3 g.edges.length c3, .bool g.whole]) (by simp [results, Try.results22, go_sem, r0, r1, r2]) rfl ⟨_, _, rfl, ?_, ?_, ?_⟩
  · refine At.mono (((((ha4.setCell ?_ _).setCell ?_ _).setCell ?_ _).setCell ?_ _).setCell ?_ _) ?_ <;> simp [From] <;> omega
  · refine At.mono (((((ha3.setCell ?_ _).setCell ?_ _).setCell ?_ _).setCell ?_ _).setCell ?_ _) ?_ <;> simp [From] <;> omega
  · repeat (first | with_reducible exact Below.refl _ _ | with_reducible refine Below.setCell ?_ (by first | omega | (simp <;> omega)) _ | with_reducible refine Below.drew ?_ | with_reducible refine below_drewN ?_ _ | with_reducible refine Below.alloc ?_ (by first | omega | (simp <;> omega)) _ | with_reducible refine Below.trans ?_ (Below.mono (by assumption) (by first | omega | (simp <;> omega))))

set_option maxHeartbeats 400000 in
theorem eqGraph_any (g : Gr) (w : World) (v u v' u' : Value) (h : At w Any (terms g.states) v) (k : At w Any (rows g.edges) u) (h' : At w Any (terms g.states) v') (k' : At w Any (rows g.edges) u') :
    Calls Try.prog 24 #[.agg #[v, u, .bool g.whole], .agg #[v', u', .bool g.whole]] w fun e w' => e = .returned (.bool true) ∧ Below w.heap.size w w' := by
  obtain ⟨A1, c1, rfl, _⟩ := terms_slice h
  obtain ⟨A2, c2, rfl, _⟩ := rows_slice k
  obtain ⟨A3, c3, rfl, _⟩ := terms_slice h'
  obtain ⟨A4, c4, rfl, _⟩ := rows_slice k'
  have hB0 := (Blk.new w 50 #[.slice A1 g.states.length c1, .slice A2 g.edges.length c2, .bool g.whole]).alloc (.cells #[.slice A3 g.states.length c3, .slice A4 g.edges.length c4, .bool g.whole] 50)
  have hC0 := Blk.new (w.alloc (.cells #[.slice A1 g.states.length c1, .slice A2 g.edges.length c2, .bool g.whole] 50)) 50 #[.slice A3 g.states.length c3, .slice A4 g.edges.length c4, .bool g.whole]
  rw [World.size_alloc] at hC0
  have e1 : (g.whole != g.whole) = false := by simp
  go_enter Try.func24, Try.ntmps24
  go_wp2_with fail
  refine (eqTermS_any _ _ _ _ ((h.alloc _).alloc _) ((h'.alloc _).alloc _)).mono ?_
  rintro e w1 ⟨rfl, hb1⟩
  have z := hb1.size
  simp at z
  have hB1 := hB0.next hb1
  have hC1 := hC0.next hb1
  obtain ⟨_, _, _⟩ := hB1.c3
  obtain ⟨_, _, _⟩ := hC1.c3
  have k1 := ((k.alloc _).alloc _).below hb1
  have k2 := ((k'.alloc _).alloc _).below hb1
  go_wp2_with fail
  refine (eqIntSS_any _ _ _ _ k1 k2).mono ?_
  rintro e w2 ⟨rfl, hb2⟩
  have hB2 := hB1.next hb2
  have hC2 := hC1.next hb2
  obtain ⟨_, _, _⟩ := hB2.c3
  obtain ⟨_, _, _⟩ := hC2.c3
  go_wp2_with fail
  go_ret
  exact ⟨rfl, by repeat (first | with_reducible exact Below.refl _ _ | with_reducible refine Below.setCell ?_ (by first | omega | (simp <;> omega)) _ | with_reducible refine Below.drew ?_ | with_reducible refine below_drewN ?_ _ | with_reducible refine Below.alloc ?_ (by first | omega | (simp <;> omega)) _ | with_reducible refine Below.trans ?_ (Below.mono (by assumption) (by first | omega | (simp <;> omega))))⟩

end Go.Proofs.Ytagnfckihdlhpaa

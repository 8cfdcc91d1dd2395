/-
  What the laws' functions on []int compute: szIntS, toIntS, eqIntS; spec.l1In.
-/
import Derived.Test.YtagnfckihdlhpaaChecked
import Derived.Test.YtagnfckihdlhpaaData
import Derived.WalkSpells
import Derived.WalkLawsBesides
import Derived.Deep.OwnRows
import Derived.Deep.QuietTactic
import Derived.BigQuiet
namespace Go.Proofs.Ytagnfckihdlhpaa
open Go.RowKit

theorem ret_int {k : IntKind} {a b : Int} (h : a = b) : Ending.returned (.int k a) = .returned (.int k b) := by rw [h]

theorem ret_bool {a b : Bool} (h : a = b) : Ending.returned (.bool a) = .returned (.bool b) := by rw [h]

/-- What szIntS and its kind leave of 'left' when n is taken from it. -/
def took (left n : Int) : Int := if left - n < 0 then -1 else left - n

set_option maxHeartbeats 400000 in
theorem szIntS_any (xs : List Int) (left : Int) (w : World) (S : Nat → Prop) (v : Value) (h : At w S (ints xs) v) (h0 : -1 ≤ left) (h1 : left ≤ 1048576) :
    Calls Try.prog 38 #[v, .int .i64 left] w fun e w' => e = .returned (.int .i64 (took left xs.length)) ∧ w = w' := by
  obtain ⟨A, c, rfl, hn, hc⟩ := ints_slice h
  go_enter Try.func38, Try.ntmps38
  go_wp2
  all_goals go_ret
  · exact ⟨ret_int (by unfold took; rw [if_pos (by omega)]), rfl⟩
  · exact ⟨ret_int (by unfold took; rw [if_neg (by omega)]), rfl⟩

theorem Try.info3 : (Try.prog.info? 3).map (fun i => (i.zero, i.size, i.bytes)) = some (some (.int .i64 0), 1, 8) := by kernel_rfl

set_option maxHeartbeats 400000 in
theorem toIntS_any (xs : List Int) (w : World) (S : Nat → Prop) (v : Value) (h : At w S (ints xs) v) (h1 : xs.length ≤ 1048576) :
    Calls Try.prog 31 #[v] w fun e w' => ∃ v', e = .returned v' ∧ At w' (From w.heap.size) (ints xs) v' ∧ Below w.heap.size w w' := by
  obtain ⟨A, c, rfl, hn, hc⟩ := ints_slice h
  have hmk := run_make_row' (P := Try.prog) 22 3 (.int .i64 0) 8 Try.underlying22 Try.info3 rfl .i64 .i64 xs.length (by omega) (by omega)
  go_enter Try.func31, Try.ntmps31
  go_wp2
  go_loopw [4] (fun i wr => ∃ (k : Nat) (cs : Array Value), k ≤ xs.length ∧ i = .int .i64 k ∧ Blk wr w.heap.size 3 cs ∧ cs.size = xs.length ∧ (∀ j, j < k → cs[j]? = some (.int .i64 (xs.getD j 0))) ∧ Below w.heap.size w wr)
    (fun i _ => xs.length - (intOf i).toNat)
  case atStart => exact ⟨0, _, Nat.zero_le _, rfl, Blk.new _ _ _, by simp [madeCells], fun j hj => by omega, (Below.refl _ _).alloc (Nat.le_refl _) _⟩
  case round =>
    obtain ⟨k, cs, hk, rfl, hblk, hsz, hdone, hb⟩ := hrel
    by_cases hlt : k < xs.length
    · obtain ⟨b, off, rfl, _, hlb, hcell⟩ := ints_at h (by omega)
      obtain ⟨hc1, hwf⟩ := hcell k hlt
      have hc2 : wr.cell? ⟨b, off + k, none⟩ = some (.int .i64 (xs.getD k 0)) := (hb.cell (p := ⟨b, off + k, none⟩) hlb).trans hc1
      have hc3 : ∃ u, wr.cell? ⟨w.heap.size, k, none⟩ = some u := ⟨cs[k]'(by omega), by rw [hblk.cell]; simp [hsz, hlt]⟩
      obtain ⟨u, hc3⟩ := hc3
      have hfz := hblk.frozen k
      have HS := Lib.hid hsz
      have HD := Lib.hid hdone
      have HB := Lib.hid hblk
      clear hsz hdone hcell hc1 hblk hmk
      go_wp2
      go_roundw
      case rel =>
        refine ⟨k + 1, _, by omega, by go_num, HB.out.set_ k _, by simpa using HS.out, fun j hj => ?_, hb.setCell (by simp) _⟩
        by_cases hjk : j = k
        · subst hjk; simp [HS.out, hlt]
        · rw [Array.getElem?_setIfInBounds_ne (by omega)]; exact HD.out j (by omega)
      case measure => simp [intOf]; omega
    · have HS := Lib.hid hsz
      have HD := Lib.hid hdone
      have HB := Lib.hid hblk
      clear hsz hdone hblk hmk
      go_wp2
      go_ret
      refine ⟨_, rfl, ints_mk (Nat.le_refl _) (by omega) fun _ => ⟨w.heap.size, 0, rfl, Nat.le_refl _, fun j hj => ⟨?_, ?_⟩⟩, hb⟩
      · rw [HB.out.cell]; simpa using HD.out j (by omega)
      · obtain ⟨b, off, _, _, _, hcell⟩ := ints_at h (by omega)
        exact (hcell j hj).2

def inB (x lo hi : Int) : Bool := decide (lo ≤ x ∧ x ≤ hi)
theorem inB_true {x lo hi : Int} : inB x lo hi = true ↔ lo ≤ x ∧ x ≤ hi := by simp [inB]
theorem inB_false {x lo hi : Int} : inB x lo hi = false ↔ ¬ (lo ≤ x ∧ x ≤ hi) := by simp [inB]
theorem l1In_any (x lo hi : Int) (w : World) :
    Calls Try.prog 39 #[.int .i64 x, .int .i64 lo, .int .i64 hi] w fun e w' => e = .returned (.bool (inB x lo hi)) ∧ w = w' := by
  by_cases ha : lo ≤ x
  · by_cases hb : x ≤ hi
    · go_enter Try.func39, Try.ntmps39
      go_wp2
      go_ret
      exact ⟨ret_bool (by symm; first | (rw [inB_true]; omega) | (rw [inB_false]; omega)), rfl⟩
    · go_enter Try.func39, Try.ntmps39
      go_wp2
      go_ret
      exact ⟨ret_bool (by symm; first | (rw [inB_true]; omega) | (rw [inB_false]; omega)), rfl⟩
  · go_enter Try.func39, Try.ntmps39
    go_wp2
    go_ret
    exact ⟨ret_bool (by symm; first | (rw [inB_true]; omega) | (rw [inB_false]; omega)), rfl⟩

theorem take_eq_succ {α : Type} {xs ys : List α} {k : Nat} {x y : α} (hx : xs[k]? = some x) (hy : ys[k]? = some y) (h : xs.take k = ys.take k) (e : x = y) : xs.take (k + 1) = ys.take (k + 1) := by
  obtain ⟨h1, rfl⟩ := List.getElem?_eq_some_iff.1 hx
  obtain ⟨h2, rfl⟩ := List.getElem?_eq_some_iff.1 hy
  rw [List.take_succ_eq_append_getElem h1, List.take_succ_eq_append_getElem h2, h, e]

set_option maxHeartbeats 400000 in
theorem eqIntS_any (xs ys : List Int) (w : World) (S T : Nat → Prop) (v u : Value) (h : At w S (ints xs) v) (g : At w T (ints ys) u) :
    Calls Try.prog 32 #[v, u] w fun e w' => e = .returned (.bool (decide (xs = ys))) ∧ Below w.heap.size w w' := by
  obtain ⟨A, c, rfl, hn, hc⟩ := ints_slice h
  obtain ⟨A', c', rfl, hn', hc'⟩ := ints_slice g
  by_cases hl : xs.length = ys.length
  · have hl' : ((xs.length : Int) != (ys.length : Int)) = false := by simp [hl]
    have HL := Lib.hid hl
    clear hl
    go_enter Try.func32, Try.ntmps32
    go_wp2
    go_loopw [5] (fun i wr => ∃ k : Nat, k ≤ xs.length ∧ i = .int .i64 k ∧ xs.take k = ys.take k ∧ Below w.heap.size w wr) (fun i _ => xs.length - (intOf i).toNat)
    case atStart => exact ⟨0, Nat.zero_le _, rfl, rfl, Below.refl _ _⟩
    case round =>
      obtain ⟨k, hk, rfl, hd, hb⟩ := hrel
      have HD := Lib.hid hd
      clear hd
      by_cases hlt : k < xs.length
      · have hlt' : k < ys.length := by rw [← HL.out]; exact hlt
        obtain ⟨b, off, x, rfl, _, hlb, hc1, HX, _⟩ := ints_get (h.below hb) hlt
        obtain ⟨b', off', y, rfl, _, hlb', hc2, HY, _⟩ := ints_get (g.below hb) hlt'
        have hi1 : (k : Int) < (xs.length : Int) := by omega
        have hi2 : (k : Int) < (ys.length : Int) := by omega
        by_cases he : x = y
        · subst he
          have he' : (x != x) = false := by simp
          go_wp2
          go_quiet (fail)
          go_wp2
          go_roundw
          case rel => exact ⟨k + 1, by omega, by go_num, take_eq_succ HX.out HY.out HD.out rfl, below_drewN hb _⟩
          case measure => simp [intOf]; omega
        · have he' : (x != y) = true := by simpa using he
          have HE := Lib.hid he
          clear he
          go_wp2
          go_quiet (fail)
          go_wp2
          go_ret
          refine ⟨?_, below_drewN hb _⟩
          have : ¬ xs = ys := fun e => HE.out (by have := HX.out; have := HY.out; simp_all)
          simp [this]
      · go_wp2
        go_ret
        refine ⟨?_, hb⟩
        have hx := HD.out
        rw [List.take_of_length_le (by omega), List.take_of_length_le (by have := HL.out; omega)] at hx
        simp [hx]
  · have hl' : ((xs.length : Int) != (ys.length : Int)) = true := by rw [bne_iff_ne]; omega
    have HL := Lib.hid hl
    clear hl
    go_enter Try.func32, Try.ntmps32
    go_wp2
    go_ret
    have : ¬ xs = ys := fun e => HL.out (by rw [e])
    exact ⟨by simp [this], Below.refl _ _⟩

end Go.Proofs.Ytagnfckihdlhpaa

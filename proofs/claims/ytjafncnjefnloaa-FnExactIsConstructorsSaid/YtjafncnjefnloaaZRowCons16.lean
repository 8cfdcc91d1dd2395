/-
  Functions of the program, by den. Printed by wip/den/dp.py.
-/
import Derived.Test.YtjafncnjefnloaaZRowCons12
namespace Go.Proofs.Ytjafncnjefnloaa.Den
open Go.RowKit
set_option maxRecDepth 100000
set_option linter.unusedVariables false
namespace s_l1In
structure Gs where
  none_ : Unit
noncomputable def ents (_ : Gs) : List Ent := []
noncomputable def main {R : Type} (G : Gs) (n : Nat) (x : Int) (lo : Int) (hi : Int) (K : Bool → Option R) : Option R :=
  bif decide (lo ≤ x) then
    (K (decide (x ≤ hi)))
  else
    K false
noncomputable def pc (_ : Gs) (_ : Nat) : Pcs := ⟨fun _ _ _ _ => none, fun _ _ _ _ => none, fun _ _ _ _ => none⟩
noncomputable def an : Ann := ⟨15, 0, [], [], [6], []⟩
theorem allp {G : Gs} (hG : AllE Try.prog (ents G)) (n : Nat) : AllP Try.prog an (pc G n) (pieces an (bodyOf Try.f14)) := by
    have h : pieces an (bodyOf Try.f14) = [] := by kernel_rfl
    rw [h]
    exact trivial
/-- What the function computes. -/
noncomputable def Does (G : Gs) (x : Int) (lo : Int) (hi : Int) (r : Bool) : Prop := ∃ n, main (R := AT × List Ob) G n x lo hi (fun r0 => some (.one (.b r0), [])) = some (.one (.b r), [])
theorem eq (G : Gs) (n : Nat) (x : Int) (lo : Int) (hi : Int) : den tb (orcOf (ents G)) (pc G n) an (bodyOf Try.f14) ⟨argsD 0 [.one (.i x), .one (.i lo), .one (.i hi)], []⟩ (atEnd (finF tb an [.tmp 6])) = main (R := AT × List Ob) G n x lo hi (fun r0 => some (.one (.b r0), [])) := by kernel_rfl
theorem ok {G : Gs} (hG : AllE Try.prog (ents G)) {g : Int → Int → Int → Option (Bool)} (hg : ∀ x lo hi r, g x lo hi = some r → Does G x lo hi r) : EntOK Try.prog (ent g) := fun R xs H K r hc => by
  simp only [ent] at hc
  split at hc
  · rename_i a a2 a3
    obtain ⟨r, q1, q2⟩ := bind_some hc
    obtain ⟨n, q3⟩ := hg a a2 a3 _ q1
    exact ⟨_, _, q2, fn_of_den (pc := pc G n) (an := an) (xs := [.one (.i a), .one (.i a2), .one (.i a3)]) (H := []) (fin := finF tb an [.tmp 6]) mixed tb_ok (orc_ok hG) (fn := Try.f14) (c := bodyOf Try.f14) Try.func14 (by kernel_rfl) (by kernel_rfl) (by kernel_rfl) (by kernel_rfl) (by kernel_rfl) (rs := [.tmp 6]) (by kernel_rfl) (.inl rfl) (allp hG n) ((eq G n a a2 a3).trans q3)⟩
  · cases hc
end s_l1In
namespace s_l1Has
structure Gs where
  none_ : Unit
noncomputable def ents (_ : Gs) : List Ent := []
noncomputable def b2 {R : Type} (G : Gs) (n : Nat) (list : List ByteArray) (s : ByteArray) (i : Int) (nx : List ByteArray → ByteArray → Int → Option R) (k0 : Bool → Option R) (k1 : Option R) : Option R :=
  bif decide (i < (List.length list : Int)) then
    (
    Option.bind (ix list i) fun e =>
    bif sEq e s then
      (k0 true)
    else
      nx list s (wr (i + 1))
    )
  else
    k1
noncomputable def l2 {R : Type} (G : Gs) (n m : Nat) (list : List ByteArray) (s : ByteArray) (i : Int) (k0 : Bool → Option R) (k1 : Option R) : Option R := iter (fun (v : List ByteArray × ByteArray × Int) nx => b2 G n v.1 v.2.1 v.2.2 (fun y0 y1 y2 => nx (y0, y1, y2)) k0 k1) m (list, s, i)
noncomputable def main {R : Type} (G : Gs) (n : Nat) (list : List ByteArray) (s : ByteArray) (K : Bool → Option R) : Option R :=
  l2 G n n list s 0
    (fun t4 => K t4)
    ( K false)
noncomputable def dl2 (G : Gs) (n m : Nat) (R : Type) (st : St) (K : Kt R) : Option R := match st with
  | ⟨[(0, .one (.l .s list)), (1, .one (.s s)), (5, .one (.i i))], []⟩ => l2 G n m list s i (fun t4 => K .ret ⟨[(4, .one (.b t4))], []⟩) (K (.exit 0) ⟨[], []⟩)
  | _ => none
noncomputable def pc (G : Gs) (n : Nat) : Pcs := ⟨fun R id st K => bif Nat.beq id 2 then dl2 G n n R st K else none, fun _ _ _ _ => none, fun _ _ _ _ => none⟩
noncomputable def an : Ann := ⟨18, 0, [(2, [0, 1, 5])], [], [4], []⟩
theorem s2 (G : Gs) (n m : Nat) (R : Type) (list : List ByteArray) (s : ByteArray) (i : Int) (K : Kt R) : den tb (orcOf (ents G)) (pc G n) an (nthC [1, 0, 1, 0, 0] (bodyOf Try.f39)) ⟨[(0, .one (.l .s list)), (1, .one (.s s)), (5, .one (.i i))], []⟩ (roundK an.refs [0, 1, 5] ⟨[], [4], [(0, [])]⟩ (fun st => dl2 G n m R st K) K) = dl2 G n (m + 1) R ⟨[(0, .one (.l .s list)), (1, .one (.s s)), (5, .one (.i i))], []⟩ K := by kernel_rfl
theorem pl2 {G : Gs} (hG : AllE Try.prog (ents G)) (n : Nat) : ∀ m, PieceOK Try.prog an (.loop (nthC [1, 0, 1, 0, 0] (bodyOf Try.f39))) (dl2 G n m) := by
  refine loop_piece mixed tb_ok (orc_ok hG) (pc := pc G n) (lv := [0, 1, 5]) (o := ⟨[], [4], [(0, [])]⟩) (by
    have h : pieces an (nthC [1, 0, 1, 0, 0] (bodyOf Try.f39)) = [] := by kernel_rfl
    rw [h]
    exact trivial) (fun R st K => ?_) (fun m R st K r h => ?_)
  · unfold dl2; split <;> rfl
  · have e := h
    unfold dl2 at e
    split at e
    · rename_i x0 x1 x2; exact (s2 G n m R x0 x1 x2 K).trans h
    · cases e
theorem allp {G : Gs} (hG : AllE Try.prog (ents G)) (n : Nat) : AllP Try.prog an (pc G n) (pieces an (bodyOf Try.f39)) := by
    have h : pieces an (bodyOf Try.f39) = [(1, 2, .loop (nthC [1, 0, 1, 0, 0] (bodyOf Try.f39)))] := by kernel_rfl
    rw [h]
    exact ⟨pl2 hG n n, trivial⟩
/-- What the function computes. -/
noncomputable def Does (G : Gs) (list : List ByteArray) (s : ByteArray) (r : Bool) : Prop := ∃ n, main (R := AT × List Ob) G n list s (fun r0 => some (.one (.b r0), [])) = some (.one (.b r), [])
theorem eq (G : Gs) (n : Nat) (list : List ByteArray) (s : ByteArray) : den tb (orcOf (ents G)) (pc G n) an (bodyOf Try.f39) ⟨argsD 0 [.one (.l .s list), .one (.s s)], []⟩ (atEnd (finF tb an [.tmp 4])) = main (R := AT × List Ob) G n list s (fun r0 => some (.one (.b r0), [])) := by kernel_rfl
theorem ok {G : Gs} (hG : AllE Try.prog (ents G)) {g : List ByteArray → ByteArray → Option (Bool)} (hg : ∀ list s r, g list s = some r → Does G list s r) : EntOK Try.prog (ent g) := fun R xs H K r hc => by
  simp only [ent] at hc
  split at hc
  · rename_i a a2
    obtain ⟨r, q1, q2⟩ := bind_some hc
    obtain ⟨n, q3⟩ := hg a a2 _ q1
    exact ⟨_, _, q2, fn_of_den (pc := pc G n) (an := an) (xs := [.one (.l .s a), .one (.s a2)]) (H := []) (fin := finF tb an [.tmp 4]) mixed tb_ok (orc_ok hG) (fn := Try.f39) (c := bodyOf Try.f39) Try.func39 (by kernel_rfl) (by kernel_rfl) (by kernel_rfl) (by kernel_rfl) (by kernel_rfl) (rs := [.tmp 4]) (by kernel_rfl) (.inl rfl) (allp hG n) ((eq G n a a2).trans q3)⟩
  · cases hc
end s_l1Has
namespace s_l1Min
structure Gs where
  none_ : Unit
noncomputable def ents (_ : Gs) : List Ent := []
noncomputable def main {R : Type} (G : Gs) (n : Nat) (a : Int) (b : Int) (K : Int → Option R) : Option R :=
  bif decide (a < b) then
    (K a)
  else
    K b
noncomputable def pc (_ : Gs) (_ : Nat) : Pcs := ⟨fun _ _ _ _ => none, fun _ _ _ _ => none, fun _ _ _ _ => none⟩
noncomputable def an : Ann := ⟨10, 0, [], [], [4], []⟩
theorem allp {G : Gs} (hG : AllE Try.prog (ents G)) (n : Nat) : AllP Try.prog an (pc G n) (pieces an (bodyOf Try.f55)) := by
    have h : pieces an (bodyOf Try.f55) = [] := by kernel_rfl
    rw [h]
    exact trivial
/-- What the function computes. -/
noncomputable def Does (G : Gs) (a : Int) (b : Int) (r : Int) : Prop := ∃ n, main (R := AT × List Ob) G n a b (fun r0 => some (.one (.i r0), [])) = some (.one (.i r), [])
theorem eq (G : Gs) (n : Nat) (a : Int) (b : Int) : den tb (orcOf (ents G)) (pc G n) an (bodyOf Try.f55) ⟨argsD 0 [.one (.i a), .one (.i b)], []⟩ (atEnd (finF tb an [.tmp 4])) = main (R := AT × List Ob) G n a b (fun r0 => some (.one (.i r0), [])) := by kernel_rfl
theorem ok {G : Gs} (hG : AllE Try.prog (ents G)) {g : Int → Int → Option (Int)} (hg : ∀ a b r, g a b = some r → Does G a b r) : EntOK Try.prog (ent g) := fun R xs H K r hc => by
  simp only [ent] at hc
  split at hc
  · rename_i a a2
    obtain ⟨r, q1, q2⟩ := bind_some hc
    obtain ⟨n, q3⟩ := hg a a2 _ q1
    exact ⟨_, _, q2, fn_of_den (pc := pc G n) (an := an) (xs := [.one (.i a), .one (.i a2)]) (H := []) (fin := finF tb an [.tmp 4]) mixed tb_ok (orc_ok hG) (fn := Try.f55) (c := bodyOf Try.f55) Try.func55 (by kernel_rfl) (by kernel_rfl) (by kernel_rfl) (by kernel_rfl) (by kernel_rfl) (rs := [.tmp 4]) (by kernel_rfl) (.inl rfl) (allp hG n) ((eq G n a a2).trans q3)⟩
  · cases hc
end s_l1Min
namespace s_l2Bit
structure Gs where
  none_ : Unit
noncomputable def ents (_ : Gs) : List Ent := []
noncomputable def main {R : Type} (G : Gs) (n : Nat) (k : Int) (K : Int → Option R) : Option R :=
  Option.bind (bif decide (0 ≤ (IntKind.wrap .u64 k)) then some (Abs.bitsI .shl .i64 1 (IntKind.wrap .u64 k)) else none) fun q =>
  K q
noncomputable def pc (_ : Gs) (_ : Nat) : Pcs := ⟨fun _ _ _ _ => none, fun _ _ _ _ => none, fun _ _ _ _ => none⟩
noncomputable def an : Ann := ⟨6, 0, [], [], [2], []⟩
theorem allp {G : Gs} (hG : AllE Try.prog (ents G)) (n : Nat) : AllP Try.prog an (pc G n) (pieces an (bodyOf Try.f54)) := by
    have h : pieces an (bodyOf Try.f54) = [] := by kernel_rfl
    rw [h]
    exact trivial
/-- What the function computes. -/
noncomputable def Does (G : Gs) (k : Int) (r : Int) : Prop := ∃ n, main (R := AT × List Ob) G n k (fun r0 => some (.one (.i r0), [])) = some (.one (.i r), [])
theorem eq (G : Gs) (n : Nat) (k : Int) : den tb (orcOf (ents G)) (pc G n) an (bodyOf Try.f54) ⟨argsD 0 [.one (.i k)], []⟩ (atEnd (finF tb an [.tmp 2])) = main (R := AT × List Ob) G n k (fun r0 => some (.one (.i r0), [])) := by kernel_rfl
theorem ok {G : Gs} (hG : AllE Try.prog (ents G)) {g : Int → Option (Int)} (hg : ∀ k r, g k = some r → Does G k r) : EntOK Try.prog (ent g) := fun R xs H K r hc => by
  simp only [ent] at hc
  split at hc
  · rename_i a
    obtain ⟨r, q1, q2⟩ := bind_some hc
    obtain ⟨n, q3⟩ := hg a _ q1
    exact ⟨_, _, q2, fn_of_den (pc := pc G n) (an := an) (xs := [.one (.i a)]) (H := []) (fin := finF tb an [.tmp 2]) mixed tb_ok (orc_ok hG) (fn := Try.f54) (c := bodyOf Try.f54) Try.func54 (by kernel_rfl) (by kernel_rfl) (by kernel_rfl) (by kernel_rfl) (by kernel_rfl) (rs := [.tmp 2]) (by kernel_rfl) (.inl rfl) (allp hG n) ((eq G n a).trans q3)⟩
  · cases hc
end s_l2Bit
namespace s_l2Has
structure Gs where
  none_ : Unit
noncomputable def ents (_ : Gs) : List Ent := []
noncomputable def main {R : Type} (G : Gs) (n : Nat) (set1 : Int) (k : Int) (K : Bool → Option R) : Option R :=
  bif decide (0 ≤ k) then
    (
    bif decide (k < 16) then
      (
      Option.bind (bif decide (0 ≤ (IntKind.wrap .u64 k)) then some (Abs.bitsI .shr .i64 set1 (IntKind.wrap .u64 k)) else none) fun q =>
      K (decide ((Abs.bitsI .and .i64 q 1) = 1))
      )
    else
      K false
    )
  else
    K false
noncomputable def pc (_ : Gs) (_ : Nat) : Pcs := ⟨fun _ _ _ _ => none, fun _ _ _ _ => none, fun _ _ _ _ => none⟩
noncomputable def an : Ann := ⟨19, 0, [], [], [4], []⟩
theorem allp {G : Gs} (hG : AllE Try.prog (ents G)) (n : Nat) : AllP Try.prog an (pc G n) (pieces an (bodyOf Try.f41)) := by
    have h : pieces an (bodyOf Try.f41) = [] := by kernel_rfl
    rw [h]
    exact trivial
/-- What the function computes. -/
noncomputable def Does (G : Gs) (set1 : Int) (k : Int) (r : Bool) : Prop := ∃ n, main (R := AT × List Ob) G n set1 k (fun r0 => some (.one (.b r0), [])) = some (.one (.b r), [])
theorem eq (G : Gs) (n : Nat) (set1 : Int) (k : Int) : den tb (orcOf (ents G)) (pc G n) an (bodyOf Try.f41) ⟨argsD 0 [.one (.i set1), .one (.i k)], []⟩ (atEnd (finF tb an [.tmp 4])) = main (R := AT × List Ob) G n set1 k (fun r0 => some (.one (.b r0), [])) := by kernel_rfl
theorem ok {G : Gs} (hG : AllE Try.prog (ents G)) {g : Int → Int → Option (Bool)} (hg : ∀ set1 k r, g set1 k = some r → Does G set1 k r) : EntOK Try.prog (ent g) := fun R xs H K r hc => by
  simp only [ent] at hc
  split at hc
  · rename_i a a2
    obtain ⟨r, q1, q2⟩ := bind_some hc
    obtain ⟨n, q3⟩ := hg a a2 _ q1
    exact ⟨_, _, q2, fn_of_den (pc := pc G n) (an := an) (xs := [.one (.i a), .one (.i a2)]) (H := []) (fin := finF tb an [.tmp 4]) mixed tb_ok (orc_ok hG) (fn := Try.f41) (c := bodyOf Try.f41) Try.func41 (by kernel_rfl) (by kernel_rfl) (by kernel_rfl) (by kernel_rfl) (by kernel_rfl) (rs := [.tmp 4]) (by kernel_rfl) (.inl rfl) (allp hG n) ((eq G n a a2).trans q3)⟩
  · cases hc
end s_l2Has
namespace s_IsName
structure Gs where
  none_ : Unit
noncomputable def ents (_ : Gs) : List Ent := []
noncomputable def b4 {R : Type} (G : Gs) (n : Nat) (s : ByteArray) (i : Int) (nx : ByteArray → Int → Option R) (k0 : Bool → Option R) (k1 : Option R) : Option R :=
  bif decide (i < (ByteArray.size s : Int)) then
    (
    Option.bind (sIx s i) fun b =>
    bif decide (97 ≤ b) then
      (
      Option.bind (sIx s i) fun b2 =>
      bif decide (b2 ≤ 122) then
        (nx s (wr (i + 1)))
      else
        Option.bind (sIx s i) fun b3 =>
        bif decide (65 ≤ b3) then
          (
          Option.bind (sIx s i) fun b4 =>
          bif decide (b4 ≤ 90) then
            (nx s (wr (i + 1)))
          else
            Option.bind (sIx s i) fun b5 =>
            bif decide (48 ≤ b5) then
              (
              Option.bind (sIx s i) fun b6 =>
              bif !(decide (b6 ≤ 57)) then
                (k0 false)
              else
                nx s (wr (i + 1))
              )
            else
              k0 false
          )
        else
          Option.bind (sIx s i) fun b7 =>
          bif decide (48 ≤ b7) then
            (
            Option.bind (sIx s i) fun b8 =>
            bif !(decide (b8 ≤ 57)) then
              (k0 false)
            else
              nx s (wr (i + 1))
            )
          else
            k0 false
      )
    else
      Option.bind (sIx s i) fun b9 =>
      bif decide (65 ≤ b9) then
        (
        Option.bind (sIx s i) fun b10 =>
        bif decide (b10 ≤ 90) then
          (nx s (wr (i + 1)))
        else
          Option.bind (sIx s i) fun b11 =>
          bif decide (48 ≤ b11) then
            (
            Option.bind (sIx s i) fun b12 =>
            bif !(decide (b12 ≤ 57)) then
              (k0 false)
            else
              nx s (wr (i + 1))
            )
          else
            k0 false
        )
      else
        Option.bind (sIx s i) fun b13 =>
        bif decide (48 ≤ b13) then
          (
          Option.bind (sIx s i) fun b14 =>
          bif !(decide (b14 ≤ 57)) then
            (k0 false)
          else
            nx s (wr (i + 1))
          )
        else
          k0 false
    )
  else
    k1
noncomputable def l4 {R : Type} (G : Gs) (n m : Nat) (s : ByteArray) (i : Int) (k0 : Bool → Option R) (k1 : Option R) : Option R := iter (fun (v : ByteArray × Int) nx => b4 G n v.1 v.2 (fun y0 y1 => nx (y0, y1)) k0 k1) m (s, i)
noncomputable def c3 {R : Type} (G : Gs) (n : Nat) (s : ByteArray) (k0 : Bool → Option R) : Option R :=
  l4 G n n s 0
    (fun t2 => k0 t2)
    ( k0 true)
noncomputable def main {R : Type} (G : Gs) (n : Nat) (s : ByteArray) (K : Bool → Option R) : Option R :=
  bif sEq s (ByteArray.mk #[105, 102]) then
    (K false)
  else
    bif sEq s (ByteArray.mk #[97, 110, 100]) then
      (K false)
    else
      bif decide ((ByteArray.size s : Int) < 1) then
        (K false)
      else
        bif decide (12 < (ByteArray.size s : Int)) then
          (K false)
        else
          Option.bind (sIx s 0) fun b =>
          bif decide (97 ≤ b) then
            (
            Option.bind (sIx s 0) fun b2 =>
            bif decide (b2 ≤ 122) then
              (
              c3 G n s
                (fun t2 => K t2)
              )
            else
              Option.bind (sIx s 0) fun b3 =>
              bif decide (65 ≤ b3) then
                (
                Option.bind (sIx s 0) fun b4 =>
                bif !(decide (b4 ≤ 90)) then
                  (K false)
                else
                  c3 G n s
                    (fun t22 => K t22)
                )
              else
                K false
            )
          else
            Option.bind (sIx s 0) fun b5 =>
            bif decide (65 ≤ b5) then
              (
              Option.bind (sIx s 0) fun b6 =>
              bif !(decide (b6 ≤ 90)) then
                (K false)
              else
                c3 G n s
                  (fun t23 => K t23)
              )
            else
              K false
noncomputable def dl4 (G : Gs) (n m : Nat) (R : Type) (st : St) (K : Kt R) : Option R := match st with
  | ⟨[(0, .one (.s s)), (3, .one (.i i))], []⟩ => l4 G n m s i (fun t2 => K .ret ⟨[(2, .one (.b t2))], []⟩) (K (.exit 0) ⟨[], []⟩)
  | _ => none
noncomputable def dc3 (G : Gs) (n : Nat) (R : Type) (st : St) (K : Kt R) : Option R := match st with
  | ⟨[(0, .one (.s s))], []⟩ => c3 G n s (fun t2 => K .ret ⟨[(2, .one (.b t2))], []⟩)
  | _ => none
noncomputable def pc (G : Gs) (n : Nat) : Pcs := ⟨fun R id st K => bif Nat.beq id 4 then dl4 G n n R st K else none, fun R id st K => bif Nat.beq id 3 then dc3 G n R st K else none, fun _ _ _ _ => none⟩
noncomputable def an : Ann := ⟨82, 0, [(4, [0, 3])], [(3, [0])], [2], []⟩
theorem s4 (G : Gs) (n m : Nat) (R : Type) (s : ByteArray) (i : Int) (K : Kt R) : den tb (orcOf (ents G)) (pc G n) an (nthC [1, 1, 0, 1, 0, 0] (bodyOf Try.f25)) ⟨[(0, .one (.s s)), (3, .one (.i i))], []⟩ (roundK an.refs [0, 3] ⟨[], [2], [(0, [])]⟩ (fun st => dl4 G n m R st K) K) = dl4 G n (m + 1) R ⟨[(0, .one (.s s)), (3, .one (.i i))], []⟩ K := by kernel_rfl
theorem pl4 {G : Gs} (hG : AllE Try.prog (ents G)) (n : Nat) : ∀ m, PieceOK Try.prog an (.loop (nthC [1, 1, 0, 1, 0, 0] (bodyOf Try.f25))) (dl4 G n m) := by
  refine loop_piece mixed tb_ok (orc_ok hG) (pc := pc G n) (lv := [0, 3]) (o := ⟨[], [2], [(0, [])]⟩) (by
    have h : pieces an (nthC [1, 1, 0, 1, 0, 0] (bodyOf Try.f25)) = [] := by kernel_rfl
    rw [h]
    exact trivial) (fun R st K => ?_) (fun m R st K r h => ?_)
  · unfold dl4; split <;> rfl
  · have e := h
    unfold dl4 at e
    split at e
    · rename_i x0 x1; exact (s4 G n m R x0 x1 K).trans h
    · cases e
theorem s3 (G : Gs) (n : Nat) (R : Type) (s : ByteArray) (K : Kt R) : den tb (orcOf (ents G)) (pc G n) an (nthC [1, 1] (bodyOf Try.f25)) ⟨[(0, .one (.s s))], []⟩ (outK an.refs ⟨[], [2], []⟩ K) = dc3 G n R ⟨[(0, .one (.s s))], []⟩ K := by kernel_rfl
theorem pc3 {G : Gs} (hG : AllE Try.prog (ents G)) {n : Nat} : PieceOK Try.prog an (nthC [1, 1] (bodyOf Try.f25)) (dc3 G n) := by
  refine cut_piece mixed tb_ok (orc_ok hG) (pc := pc G n) (o := ⟨[], [2], []⟩) (by
    have h : pieces an (nthC [1, 1] (bodyOf Try.f25)) = [(1, 4, .loop (nthC [1, 1, 0, 1, 0, 0] (bodyOf Try.f25)))] := by kernel_rfl
    rw [h]
    exact ⟨pl4 hG n n, trivial⟩) (fun R st K r h => ?_)
  have e := h
  unfold dc3 at e
  split at e
  · rename_i x0; exact (s3 G n R x0 K).trans h
  · cases e
theorem allp {G : Gs} (hG : AllE Try.prog (ents G)) (n : Nat) : AllP Try.prog an (pc G n) (pieces an (bodyOf Try.f25)) := by
    have h : pieces an (bodyOf Try.f25) = [(0, 3, nthC [1, 1] (bodyOf Try.f25))] := by kernel_rfl
    rw [h]
    exact ⟨pc3 hG, trivial⟩
/-- What the function computes. -/
noncomputable def Does (G : Gs) (s : ByteArray) (r : Bool) : Prop := ∃ n, main (R := AT × List Ob) G n s (fun r0 => some (.one (.b r0), [])) = some (.one (.b r), [])
theorem eq (G : Gs) (n : Nat) (s : ByteArray) : den tb (orcOf (ents G)) (pc G n) an (bodyOf Try.f25) ⟨argsD 0 [.one (.s s)], []⟩ (atEnd (finF tb an [.tmp 2])) = main (R := AT × List Ob) G n s (fun r0 => some (.one (.b r0), [])) := by kernel_rfl
theorem ok {G : Gs} (hG : AllE Try.prog (ents G)) {g : ByteArray → Option (Bool)} (hg : ∀ s r, g s = some r → Does G s r) : EntOK Try.prog (ent g) := fun R xs H K r hc => by
  simp only [ent] at hc
  split at hc
  · rename_i a
    obtain ⟨r, q1, q2⟩ := bind_some hc
    obtain ⟨n, q3⟩ := hg a _ q1
    exact ⟨_, _, q2, fn_of_den (pc := pc G n) (an := an) (xs := [.one (.s a)]) (H := []) (fin := finF tb an [.tmp 2]) mixed tb_ok (orc_ok hG) (fn := Try.f25) (c := bodyOf Try.f25) Try.func25 (by kernel_rfl) (by kernel_rfl) (by kernel_rfl) (by kernel_rfl) (by kernel_rfl) (rs := [.tmp 2]) (by kernel_rfl) (.inl rfl) (allp hG n) ((eq G n a).trans q3)⟩
  · cases hc
end s_IsName
namespace s_l3Up
structure Gs where
  s_l2Bit : Int → Option (Int)
noncomputable def ents (G : Gs) : List Ent := [s_l2Bit.ent G.s_l2Bit]
noncomputable def b3 {R : Type} (G : Gs) (n : Nat) (i : Int) (h0 : List ByteArray) (h02 : List Sb) (h1 : List Int) (nx : Int → List ByteArray → List Sb → List Int → Option R) (k0 : List ByteArray → List Sb → List Int → Option R) : Option R :=
  bif decide (i < (List.length h0 : Int)) then
    (
    Option.bind (G.s_l2Bit i) fun r =>
    Option.bind (lim (h1 ++ [r])) fun zs =>
    nx (wr (i + 1)) h0 h02 zs
    )
  else
    k0 h0 h02 h1
noncomputable def l3 {R : Type} (G : Gs) (n m : Nat) (i : Int) (h0 : List ByteArray) (h02 : List Sb) (h1 : List Int) (k0 : List ByteArray → List Sb → List Int → Option R) : Option R := iter (fun (v : Int × List ByteArray × List Sb × List Int) nx => b3 G n v.1 v.2.1 v.2.2.1 v.2.2.2 (fun y0 y1 y2 y3 => nx (y0, y1, y2, y3)) k0) m (i, h0, h02, h1)
noncomputable def b10 {R : Type} (G : Gs) (n : Nat) (n1 : Int) (k : Int) (h0 : List ByteArray) (h02 : List Sb) (h1 : List Int) (nx : Int → Int → List ByteArray → List Sb → List Int → Option R) (k0 : Int → List ByteArray → List Sb → List Int → Option R) : Option R :=
  bif decide (k < (List.length h02 : Int)) then
    (
    Option.bind (ix h02 k) fun e14 =>
    Option.bind (ix h02 k) fun e16 =>
    Option.bind (ix h1 (Sb.low e16)) fun e18 =>
    Option.bind (ix h02 k) fun e20 =>
    Option.bind (ix h1 (Sb.high e20)) fun e22 =>
    Option.bind (ix h1 (Sb.low e14)) fun e24 =>
    nx n1 (wr (k + 1)) h0 h02 (List.set h1 (Int.toNat (Sb.low e14)) (Abs.bitsI .or .i64 e18 e22))
    )
  else
    k0 n1 h0 h02 h1
noncomputable def l10 {R : Type} (G : Gs) (n m : Nat) (n1 : Int) (k : Int) (h0 : List ByteArray) (h02 : List Sb) (h1 : List Int) (k0 : Int → List ByteArray → List Sb → List Int → Option R) : Option R := iter (fun (v : Int × Int × List ByteArray × List Sb × List Int) nx => b10 G n v.1 v.2.1 v.2.2.1 v.2.2.2.1 v.2.2.2.2 (fun y0 y1 y2 y3 y4 => nx (y0, y1, y2, y3, y4)) k0) m (n1, k, h0, h02, h1)
noncomputable def b7 {R : Type} (G : Gs) (n : Nat) (n1 : Int) (h0 : List ByteArray) (h02 : List Sb) (h1 : List Int) (nx : Int → List ByteArray → List Sb → List Int → Option R) (k0 : List Int → Option R) : Option R :=
  bif decide (n1 < (List.length h0 : Int)) then
    (
    l10 G n n n1 0 h0 h02 h1
      (fun n12 h03 h022 h12 => nx (wr (n12 + 1)) h03 h022 h12)
    )
  else
    k0 h1
noncomputable def l7 {R : Type} (G : Gs) (n m : Nat) (n1 : Int) (h0 : List ByteArray) (h02 : List Sb) (h1 : List Int) (k0 : List Int → Option R) : Option R := iter (fun (v : Int × List ByteArray × List Sb × List Int) nx => b7 G n v.1 v.2.1 v.2.2.1 v.2.2.2 (fun y0 y1 y2 y3 => nx (y0, y1, y2, y3)) k0) m (n1, h0, h02, h1)
noncomputable def main {R : Type} (G : Gs) (n : Nat) (s : So) (K : List Int → Option R) : Option R :=
  l3 G n n 0 (So.names s) (So.subs s) []
    (fun h0 h02 h1 =>
      l7 G n n 0 h0 h02 h1
        (fun h03 => K h03)
    )
noncomputable def dl3 (G : Gs) (n m : Nat) (R : Type) (st : St) (K : Kt R) : Option R := match st with
  | ⟨[(1, .one (.p 0 0)), (3, .one (.o 1)), (4, .one (.i i))], [.box [.l .s h0, .l (.n 5) h02], .row .i 0 h1]⟩ => l3 G n m i h0 h02 h1 (fun h0 h02 h1 => K (.exit 0) ⟨[(1, .one (.p 0 0)), (3, .one (.o 1))], [.box [.l .s h0, .l (.n 5) h02], .row .i 0 h1]⟩)
  | _ => none
noncomputable def dl10 (G : Gs) (n m : Nat) (R : Type) (st : St) (K : Kt R) : Option R := match st with
  | ⟨[(1, .one (.p 0 0)), (3, .one (.o 1)), (5, .one (.i n1)), (6, .one (.i k))], [.box [.l .s h0, .l (.n 5) h02], .row .i 0 h1]⟩ => l10 G n m n1 k h0 h02 h1 (fun n1 h0 h02 h1 => K (.exit 4) ⟨[(1, .one (.p 0 0)), (3, .one (.o 1)), (5, .one (.i n1))], [.box [.l .s h0, .l (.n 5) h02], .row .i 0 h1]⟩)
  | _ => none
noncomputable def dl7 (G : Gs) (n m : Nat) (R : Type) (st : St) (K : Kt R) : Option R := match st with
  | ⟨[(1, .one (.p 0 0)), (3, .one (.o 1)), (5, .one (.i n1))], [.box [.l .s h0, .l (.n 5) h02], .row .i 0 h1]⟩ => l7 G n m n1 h0 h02 h1 (fun h0 => K (.exit 2) ⟨[(3, .one (.o 0))], [.row .i 0 h0]⟩)
  | _ => none
noncomputable def pc (G : Gs) (n : Nat) : Pcs := ⟨fun R id st K => bif Nat.beq id 3 then dl3 G n n R st K else bif Nat.beq id 10 then dl10 G n n R st K else bif Nat.beq id 7 then dl7 G n n R st K else none, fun _ _ _ _ => none, fun _ _ _ _ => none⟩
noncomputable def an : Ann := ⟨62, 0, [(3, [1, 3, 4]), (10, [1, 3, 5, 6]), (7, [1, 3, 5])], [], [2], [(12, ⟨[([0, 1, 2, 3, 4, 5, 6, 7, 8, 9, 10, 11, 12, 13, 14, 15, 16, 17, 18, 19, 20, 21, 22, 23, 24, 25, 26, 27], [27], [14, 15, 23, 24, 26])], [27], [], [0], []⟩)]⟩
theorem s3 (G : Gs) (n m : Nat) (R : Type) (i : Int) (h0 : List ByteArray) (h02 : List Sb) (h1 : List Int) (K : Kt R) : den tb (orcOf (ents G)) (pc G n) an (nthC [1, 1, 0, 1, 0, 0] (bodyOf Try.f40)) ⟨[(1, .one (.p 0 0)), (3, .one (.o 1)), (4, .one (.i i))], [.box [.l .s h0, .l (.n 5) h02], .row .i 0 h1]⟩ (roundK an.refs [1, 3, 4] ⟨[1, 3], [2], [(0, [1, 3])]⟩ (fun st => dl3 G n m R st K) K) = dl3 G n (m + 1) R ⟨[(1, .one (.p 0 0)), (3, .one (.o 1)), (4, .one (.i i))], [.box [.l .s h0, .l (.n 5) h02], .row .i 0 h1]⟩ K := by kernel_rfl
theorem pl3 {G : Gs} (hG : AllE Try.prog (ents G)) (n : Nat) : ∀ m, PieceOK Try.prog an (.loop (nthC [1, 1, 0, 1, 0, 0] (bodyOf Try.f40))) (dl3 G n m) := by
  refine loop_piece mixed tb_ok (orc_ok hG) (pc := pc G n) (lv := [1, 3, 4]) (o := ⟨[1, 3], [2], [(0, [1, 3])]⟩) (by
    have h : pieces an (nthC [1, 1, 0, 1, 0, 0] (bodyOf Try.f40)) = [] := by kernel_rfl
    rw [h]
    exact trivial) (fun R st K => ?_) (fun m R st K r h => ?_)
  · unfold dl3; split <;> rfl
  · have e := h
    unfold dl3 at e
    split at e
    · rename_i x0 x1 x2 x3; exact (s3 G n m R x0 x1 x2 x3 K).trans h
    · cases e
theorem s10 (G : Gs) (n m : Nat) (R : Type) (n1 : Int) (k : Int) (h0 : List ByteArray) (h02 : List Sb) (h1 : List Int) (K : Kt R) : den tb (orcOf (ents G)) (pc G n) an (nthC [1, 1, 1, 0, 1, 0, 0, 1, 0, 0, 1, 0, 0] (bodyOf Try.f40)) ⟨[(1, .one (.p 0 0)), (3, .one (.o 1)), (5, .one (.i n1)), (6, .one (.i k))], [.box [.l .s h0, .l (.n 5) h02], .row .i 0 h1]⟩ (roundK an.refs [1, 3, 5, 6] ⟨[1, 3, 5], [2], [(2, [3]), (3, [1, 3, 5]), (4, [1, 3, 5])]⟩ (fun st => dl10 G n m R st K) K) = dl10 G n (m + 1) R ⟨[(1, .one (.p 0 0)), (3, .one (.o 1)), (5, .one (.i n1)), (6, .one (.i k))], [.box [.l .s h0, .l (.n 5) h02], .row .i 0 h1]⟩ K := by kernel_rfl
theorem pl10 {G : Gs} (hG : AllE Try.prog (ents G)) (n : Nat) : ∀ m, PieceOK Try.prog an (.loop (nthC [1, 1, 1, 0, 1, 0, 0, 1, 0, 0, 1, 0, 0] (bodyOf Try.f40))) (dl10 G n m) := by
  refine loop_piece mixed tb_ok (orc_ok hG) (pc := pc G n) (lv := [1, 3, 5, 6]) (o := ⟨[1, 3, 5], [2], [(2, [3]), (3, [1, 3, 5]), (4, [1, 3, 5])]⟩) (by
    have h : pieces an (nthC [1, 1, 1, 0, 1, 0, 0, 1, 0, 0, 1, 0, 0] (bodyOf Try.f40)) = [] := by kernel_rfl
    rw [h]
    exact trivial) (fun R st K => ?_) (fun m R st K r h => ?_)
  · unfold dl10; split <;> rfl
  · have e := h
    unfold dl10 at e
    split at e
    · rename_i x0 x1 x2 x3 x4; exact (s10 G n m R x0 x1 x2 x3 x4 K).trans h
    · cases e
theorem s7 (G : Gs) (n m : Nat) (R : Type) (n1 : Int) (h0 : List ByteArray) (h02 : List Sb) (h1 : List Int) (K : Kt R) : den tb (orcOf (ents G)) (pc G n) an (nthC [1, 1, 1, 0, 1, 0, 0] (bodyOf Try.f40)) ⟨[(1, .one (.p 0 0)), (3, .one (.o 1)), (5, .one (.i n1))], [.box [.l .s h0, .l (.n 5) h02], .row .i 0 h1]⟩ (roundK an.refs [1, 3, 5] ⟨[3], [2], [(2, [3])]⟩ (fun st => dl7 G n m R st K) K) = dl7 G n (m + 1) R ⟨[(1, .one (.p 0 0)), (3, .one (.o 1)), (5, .one (.i n1))], [.box [.l .s h0, .l (.n 5) h02], .row .i 0 h1]⟩ K := by kernel_rfl
theorem pl7 {G : Gs} (hG : AllE Try.prog (ents G)) (n : Nat) : ∀ m, PieceOK Try.prog an (.loop (nthC [1, 1, 1, 0, 1, 0, 0] (bodyOf Try.f40))) (dl7 G n m) := by
  refine loop_piece mixed tb_ok (orc_ok hG) (pc := pc G n) (lv := [1, 3, 5]) (o := ⟨[3], [2], [(2, [3])]⟩) (by
    have h : pieces an (nthC [1, 1, 1, 0, 1, 0, 0] (bodyOf Try.f40)) = [(1, 10, .loop (nthC [1, 1, 1, 0, 1, 0, 0, 1, 0, 0, 1, 0, 0] (bodyOf Try.f40)))] := by kernel_rfl
    rw [h]
    exact ⟨pl10 hG n n, trivial⟩) (fun R st K => ?_) (fun m R st K r h => ?_)
  · unfold dl7; split <;> rfl
  · have e := h
    unfold dl7 at e
    split at e
    · rename_i x0 x1 x2 x3; exact (s7 G n m R x0 x1 x2 x3 K).trans h
    · cases e
theorem allp {G : Gs} (hG : AllE Try.prog (ents G)) (n : Nat) : AllP Try.prog an (pc G n) (pieces an (bodyOf Try.f40)) := by
    have h : pieces an (bodyOf Try.f40) = [(1, 3, .loop (nthC [1, 1, 0, 1, 0, 0] (bodyOf Try.f40))), (1, 7, .loop (nthC [1, 1, 1, 0, 1, 0, 0] (bodyOf Try.f40)))] := by kernel_rfl
    rw [h]
    exact ⟨pl3 hG n n, ⟨pl7 hG n n, trivial⟩⟩
/-- What the function computes. -/
noncomputable def Does (G : Gs) (s : So) (r : List Int) : Prop := ∃ n, main (R := AT × List Ob) G n s (fun r0 => some (.one (.l .i r0), [])) = some (.one (.l .i r), [])
theorem eq (G : Gs) (n : Nat) (s : So) : den tb (orcOf (ents G)) (pc G n) an (bodyOf Try.f40) ⟨argsD 0 [.agg [.l .s (So.names s), .l (.n 5) (So.subs s)]], []⟩ (atEnd (finF tb an [.tmp 2])) = main (R := AT × List Ob) G n s (fun r0 => some (.one (.l .i r0), [])) := by kernel_rfl
theorem ok {G : Gs} (hG : AllE Try.prog (ents G)) {g : So → Option (List Int)} (hg : ∀ s r, g s = some r → Does G s r) : EntOK Try.prog (ent g) := fun R xs H K r hc => by
  simp only [ent] at hc
  split at hc
  · rename_i a a2
    obtain ⟨r, q1, q2⟩ := bind_some hc
    obtain ⟨n, q3⟩ := hg (So.mk a a2) _ q1
    exact ⟨_, _, q2, fn_of_den (pc := pc G n) (an := an) (xs := [.agg [.l .s a, .l (.n 5) a2]]) (H := []) (fin := finF tb an [.tmp 2]) mixed tb_ok (orc_ok hG) (fn := Try.f40) (c := bodyOf Try.f40) Try.func40 (by kernel_rfl) (by kernel_rfl) (by kernel_rfl) (by kernel_rfl) (by kernel_rfl) (rs := [.tmp 2]) (by kernel_rfl) (.inl rfl) (allp hG n) ((eq G n (So.mk a a2)).trans q3)⟩
  · cases hc
end s_l3Up
namespace s_l3Kinds
structure Gs where
  s_l1Min : Int → Int → Option (Int)
noncomputable def ents (G : Gs) : List Ent := [s_l1Min.ent G.s_l1Min]
noncomputable def b3 {R : Type} (G : Gs) (n : Nat) (i : Int) (h0 : List ByteArray) (h02 : List Sb) (h1 : List Int) (nx : Int → List ByteArray → List Sb → List Int → Option R) (k0 : List ByteArray → List Sb → List Int → Option R) : Option R :=
  bif decide (i < (List.length h0 : Int)) then
    (
    Option.bind (lim (h1 ++ [i])) fun zs =>
    nx (wr (i + 1)) h0 h02 zs
    )
  else
    k0 h0 h02 h1
noncomputable def l3 {R : Type} (G : Gs) (n m : Nat) (i : Int) (h0 : List ByteArray) (h02 : List Sb) (h1 : List Int) (k0 : List ByteArray → List Sb → List Int → Option R) : Option R := iter (fun (v : Int × List ByteArray × List Sb × List Int) nx => b3 G n v.1 v.2.1 v.2.2.1 v.2.2.2 (fun y0 y1 y2 y3 => nx (y0, y1, y2, y3)) k0) m (i, h0, h02, h1)
noncomputable def b10 {R : Type} (G : Gs) (n : Nat) (n1 : Int) (k : Int) (h0 : List ByteArray) (h02 : List Sb) (h1 : List Int) (nx : Int → Int → List ByteArray → List Sb → List Int → Option R) (k0 : Int → List ByteArray → List Sb → List Int → Option R) : Option R :=
  bif decide (k < (List.length h02 : Int)) then
    (
    Option.bind (ix h02 k) fun e2 =>
    Option.bind (ix h02 k) fun e4 =>
    Option.bind (ix h1 (Sb.low e2)) fun e6 =>
    Option.bind (ix h1 (Sb.high e4)) fun e8 =>
    Option.bind (G.s_l1Min e6 e8) fun r2 =>
    Option.bind (ix h1 (Sb.low e2)) fun e9 =>
    Option.bind (ix (List.set h1 (Int.toNat (Sb.low e2)) r2) (Sb.high e4)) fun e10 =>
    nx n1 (wr (k + 1)) h0 h02 (List.set (List.set h1 (Int.toNat (Sb.low e2)) r2) (Int.toNat (Sb.high e4)) r2)
    )
  else
    k0 n1 h0 h02 h1
noncomputable def l10 {R : Type} (G : Gs) (n m : Nat) (n1 : Int) (k : Int) (h0 : List ByteArray) (h02 : List Sb) (h1 : List Int) (k0 : Int → List ByteArray → List Sb → List Int → Option R) : Option R := iter (fun (v : Int × Int × List ByteArray × List Sb × List Int) nx => b10 G n v.1 v.2.1 v.2.2.1 v.2.2.2.1 v.2.2.2.2 (fun y0 y1 y2 y3 y4 => nx (y0, y1, y2, y3, y4)) k0) m (n1, k, h0, h02, h1)
noncomputable def b7 {R : Type} (G : Gs) (n : Nat) (n1 : Int) (h0 : List ByteArray) (h02 : List Sb) (h1 : List Int) (nx : Int → List ByteArray → List Sb → List Int → Option R) (k0 : List Int → Option R) : Option R :=
  bif decide (n1 < (List.length h1 : Int)) then
    (
    l10 G n n n1 0 h0 h02 h1
      (fun n12 h03 h022 h12 => nx (wr (n12 + 1)) h03 h022 h12)
    )
  else
    k0 h1
noncomputable def l7 {R : Type} (G : Gs) (n m : Nat) (n1 : Int) (h0 : List ByteArray) (h02 : List Sb) (h1 : List Int) (k0 : List Int → Option R) : Option R := iter (fun (v : Int × List ByteArray × List Sb × List Int) nx => b7 G n v.1 v.2.1 v.2.2.1 v.2.2.2 (fun y0 y1 y2 y3 => nx (y0, y1, y2, y3)) k0) m (n1, h0, h02, h1)
noncomputable def main {R : Type} (G : Gs) (n : Nat) (s : So) (K : List Int → Option R) : Option R :=
  l3 G n n 0 (So.names s) (So.subs s) []
    (fun h0 h02 h1 =>
      l7 G n n 0 h0 h02 h1
        (fun h03 => K h03)
    )
noncomputable def dl3 (G : Gs) (n m : Nat) (R : Type) (st : St) (K : Kt R) : Option R := match st with
  | ⟨[(1, .one (.p 0 0)), (3, .one (.o 1)), (4, .one (.i i))], [.box [.l .s h0, .l (.n 5) h02], .row .i 0 h1]⟩ => l3 G n m i h0 h02 h1 (fun h0 h02 h1 => K (.exit 0) ⟨[(1, .one (.p 0 0)), (3, .one (.o 1))], [.box [.l .s h0, .l (.n 5) h02], .row .i 0 h1]⟩)
  | _ => none
noncomputable def dl10 (G : Gs) (n m : Nat) (R : Type) (st : St) (K : Kt R) : Option R := match st with
  | ⟨[(1, .one (.p 0 0)), (3, .one (.o 1)), (5, .one (.i n1)), (6, .one (.i k))], [.box [.l .s h0, .l (.n 5) h02], .row .i 0 h1]⟩ => l10 G n m n1 k h0 h02 h1 (fun n1 h0 h02 h1 => K (.exit 4) ⟨[(1, .one (.p 0 0)), (3, .one (.o 1)), (5, .one (.i n1))], [.box [.l .s h0, .l (.n 5) h02], .row .i 0 h1]⟩)
  | _ => none
noncomputable def dl7 (G : Gs) (n m : Nat) (R : Type) (st : St) (K : Kt R) : Option R := match st with
  | ⟨[(1, .one (.p 0 0)), (3, .one (.o 1)), (5, .one (.i n1))], [.box [.l .s h0, .l (.n 5) h02], .row .i 0 h1]⟩ => l7 G n m n1 h0 h02 h1 (fun h0 => K (.exit 2) ⟨[(3, .one (.o 0))], [.row .i 0 h0]⟩)
  | _ => none
noncomputable def pc (G : Gs) (n : Nat) : Pcs := ⟨fun R id st K => bif Nat.beq id 3 then dl3 G n n R st K else bif Nat.beq id 10 then dl10 G n n R st K else bif Nat.beq id 7 then dl7 G n n R st K else none, fun _ _ _ _ => none, fun _ _ _ _ => none⟩
noncomputable def an : Ann := ⟨65, 0, [(3, [1, 3, 4]), (10, [1, 3, 5, 6]), (7, [1, 3, 5])], [], [2], [(12, ⟨[([0, 1, 2, 3, 4, 5, 6, 7, 8, 9, 10, 11, 12, 13], [], [])], [], [], [0, 1], []⟩), (13, ⟨[([0, 1, 2, 3, 4, 5, 6, 7, 8, 9], [], [])], [], [], [0, 1], []⟩)]⟩
theorem s3 (G : Gs) (n m : Nat) (R : Type) (i : Int) (h0 : List ByteArray) (h02 : List Sb) (h1 : List Int) (K : Kt R) : den tb (orcOf (ents G)) (pc G n) an (nthC [1, 1, 0, 1, 0, 0] (bodyOf Try.f42)) ⟨[(1, .one (.p 0 0)), (3, .one (.o 1)), (4, .one (.i i))], [.box [.l .s h0, .l (.n 5) h02], .row .i 0 h1]⟩ (roundK an.refs [1, 3, 4] ⟨[1, 3], [2], [(0, [1, 3])]⟩ (fun st => dl3 G n m R st K) K) = dl3 G n (m + 1) R ⟨[(1, .one (.p 0 0)), (3, .one (.o 1)), (4, .one (.i i))], [.box [.l .s h0, .l (.n 5) h02], .row .i 0 h1]⟩ K := by kernel_rfl
theorem pl3 {G : Gs} (hG : AllE Try.prog (ents G)) (n : Nat) : ∀ m, PieceOK Try.prog an (.loop (nthC [1, 1, 0, 1, 0, 0] (bodyOf Try.f42))) (dl3 G n m) := by
  refine loop_piece mixed tb_ok (orc_ok hG) (pc := pc G n) (lv := [1, 3, 4]) (o := ⟨[1, 3], [2], [(0, [1, 3])]⟩) (by
    have h : pieces an (nthC [1, 1, 0, 1, 0, 0] (bodyOf Try.f42)) = [] := by kernel_rfl
    rw [h]
    exact trivial) (fun R st K => ?_) (fun m R st K r h => ?_)
  · unfold dl3; split <;> rfl
  · have e := h
    unfold dl3 at e
    split at e
    · rename_i x0 x1 x2 x3; exact (s3 G n m R x0 x1 x2 x3 K).trans h
    · cases e
theorem s10 (G : Gs) (n m : Nat) (R : Type) (n1 : Int) (k : Int) (h0 : List ByteArray) (h02 : List Sb) (h1 : List Int) (K : Kt R) : den tb (orcOf (ents G)) (pc G n) an (nthC [1, 1, 1, 0, 1, 0, 0, 1, 0, 0, 1, 0, 0] (bodyOf Try.f42)) ⟨[(1, .one (.p 0 0)), (3, .one (.o 1)), (5, .one (.i n1)), (6, .one (.i k))], [.box [.l .s h0, .l (.n 5) h02], .row .i 0 h1]⟩ (roundK an.refs [1, 3, 5, 6] ⟨[1, 3, 5], [2], [(2, [3]), (3, [1, 3, 5]), (4, [1, 3, 5])]⟩ (fun st => dl10 G n m R st K) K) = dl10 G n (m + 1) R ⟨[(1, .one (.p 0 0)), (3, .one (.o 1)), (5, .one (.i n1)), (6, .one (.i k))], [.box [.l .s h0, .l (.n 5) h02], .row .i 0 h1]⟩ K := by kernel_rfl
theorem pl10 {G : Gs} (hG : AllE Try.prog (ents G)) (n : Nat) : ∀ m, PieceOK Try.prog an (.loop (nthC [1, 1, 1, 0, 1, 0, 0, 1, 0, 0, 1, 0, 0] (bodyOf Try.f42))) (dl10 G n m) := by
  refine loop_piece mixed tb_ok (orc_ok hG) (pc := pc G n) (lv := [1, 3, 5, 6]) (o := ⟨[1, 3, 5], [2], [(2, [3]), (3, [1, 3, 5]), (4, [1, 3, 5])]⟩) (by
    have h : pieces an (nthC [1, 1, 1, 0, 1, 0, 0, 1, 0, 0, 1, 0, 0] (bodyOf Try.f42)) = [] := by kernel_rfl
    rw [h]
    exact trivial) (fun R st K => ?_) (fun m R st K r h => ?_)
  · unfold dl10; split <;> rfl
  · have e := h
    unfold dl10 at e
    split at e
    · rename_i x0 x1 x2 x3 x4; exact (s10 G n m R x0 x1 x2 x3 x4 K).trans h
    · cases e
theorem s7 (G : Gs) (n m : Nat) (R : Type) (n1 : Int) (h0 : List ByteArray) (h02 : List Sb) (h1 : List Int) (K : Kt R) : den tb (orcOf (ents G)) (pc G n) an (nthC [1, 1, 1, 0, 1, 0, 0] (bodyOf Try.f42)) ⟨[(1, .one (.p 0 0)), (3, .one (.o 1)), (5, .one (.i n1))], [.box [.l .s h0, .l (.n 5) h02], .row .i 0 h1]⟩ (roundK an.refs [1, 3, 5] ⟨[3], [2], [(2, [3])]⟩ (fun st => dl7 G n m R st K) K) = dl7 G n (m + 1) R ⟨[(1, .one (.p 0 0)), (3, .one (.o 1)), (5, .one (.i n1))], [.box [.l .s h0, .l (.n 5) h02], .row .i 0 h1]⟩ K := by kernel_rfl
theorem pl7 {G : Gs} (hG : AllE Try.prog (ents G)) (n : Nat) : ∀ m, PieceOK Try.prog an (.loop (nthC [1, 1, 1, 0, 1, 0, 0] (bodyOf Try.f42))) (dl7 G n m) := by
  refine loop_piece mixed tb_ok (orc_ok hG) (pc := pc G n) (lv := [1, 3, 5]) (o := ⟨[3], [2], [(2, [3])]⟩) (by
    have h : pieces an (nthC [1, 1, 1, 0, 1, 0, 0] (bodyOf Try.f42)) = [(1, 10, .loop (nthC [1, 1, 1, 0, 1, 0, 0, 1, 0, 0, 1, 0, 0] (bodyOf Try.f42)))] := by kernel_rfl
    rw [h]
    exact ⟨pl10 hG n n, trivial⟩) (fun R st K => ?_) (fun m R st K r h => ?_)
  · unfold dl7; split <;> rfl
  · have e := h
    unfold dl7 at e
    split at e
    · rename_i x0 x1 x2 x3; exact (s7 G n m R x0 x1 x2 x3 K).trans h
    · cases e
theorem allp {G : Gs} (hG : AllE Try.prog (ents G)) (n : Nat) : AllP Try.prog an (pc G n) (pieces an (bodyOf Try.f42)) := by
    have h : pieces an (bodyOf Try.f42) = [(1, 3, .loop (nthC [1, 1, 0, 1, 0, 0] (bodyOf Try.f42))), (1, 7, .loop (nthC [1, 1, 1, 0, 1, 0, 0] (bodyOf Try.f42)))] := by kernel_rfl
    rw [h]
    exact ⟨pl3 hG n n, ⟨pl7 hG n n, trivial⟩⟩
/-- What the function computes. -/
noncomputable def Does (G : Gs) (s : So) (r : List Int) : Prop := ∃ n, main (R := AT × List Ob) G n s (fun r0 => some (.one (.l .i r0), [])) = some (.one (.l .i r), [])
theorem eq (G : Gs) (n : Nat) (s : So) : den tb (orcOf (ents G)) (pc G n) an (bodyOf Try.f42) ⟨argsD 0 [.agg [.l .s (So.names s), .l (.n 5) (So.subs s)]], []⟩ (atEnd (finF tb an [.tmp 2])) = main (R := AT × List Ob) G n s (fun r0 => some (.one (.l .i r0), [])) := by kernel_rfl
theorem ok {G : Gs} (hG : AllE Try.prog (ents G)) {g : So → Option (List Int)} (hg : ∀ s r, g s = some r → Does G s r) : EntOK Try.prog (ent g) := fun R xs H K r hc => by
  simp only [ent] at hc
  split at hc
  · rename_i a a2
    obtain ⟨r, q1, q2⟩ := bind_some hc
    obtain ⟨n, q3⟩ := hg (So.mk a a2) _ q1
    exact ⟨_, _, q2, fn_of_den (pc := pc G n) (an := an) (xs := [.agg [.l .s a, .l (.n 5) a2]]) (H := []) (fin := finF tb an [.tmp 2]) mixed tb_ok (orc_ok hG) (fn := Try.f42) (c := bodyOf Try.f42) Try.func42 (by kernel_rfl) (by kernel_rfl) (by kernel_rfl) (by kernel_rfl) (by kernel_rfl) (rs := [.tmp 2]) (by kernel_rfl) (.inl rfl) (allp hG n) ((eq G n (So.mk a a2)).trans q3)⟩
  · cases hc
end s_l3Kinds
namespace s_IsSorts
structure Gs where
  s_IsName : ByteArray → Option (Bool)
  s_l1Has : List ByteArray → ByteArray → Option (Bool)
  s_l1In : Int → Int → Int → Option (Bool)
  s_l3Up : So → Option (List Int)
  s_l2Has : Int → Int → Option (Bool)
noncomputable def ents (G : Gs) : List Ent := [s_IsName.ent G.s_IsName, s_l1Has.ent G.s_l1Has, s_l1In.ent G.s_l1In, s_l3Up.ent G.s_l3Up, s_l2Has.ent G.s_l2Has]
noncomputable def b4 {R : Type} (G : Gs) (n : Nat) (i : Int) (h0 : List ByteArray) (h02 : List Sb) (nx : Int → List ByteArray → List Sb → Option R) (k0 : Bool → Option R) (k1 : List ByteArray → List Sb → Option R) : Option R :=
  bif decide (i < (List.length h0 : Int)) then
    (
    Option.bind (ix h0 i) fun e2 =>
    Option.bind (G.s_IsName e2) fun r2 =>
    bif !r2 then
      (k0 false)
    else
      Option.bind (sub h0 0 i) fun ys2 =>
      Option.bind (ix h0 i) fun e4 =>
      Option.bind (G.s_l1Has ys2 e4) fun r4 =>
      bif r4 then
        (k0 false)
      else
        nx (wr (i + 1)) h0 h02
    )
  else
    k1 h0 h02
noncomputable def l4 {R : Type} (G : Gs) (n m : Nat) (i : Int) (h0 : List ByteArray) (h02 : List Sb) (k0 : Bool → Option R) (k1 : List ByteArray → List Sb → Option R) : Option R := iter (fun (v : Int × List ByteArray × List Sb) nx => b4 G n v.1 v.2.1 v.2.2 (fun y0 y1 y2 => nx (y0, y1, y2)) k0 k1) m (i, h0, h02)
noncomputable def b9 {R : Type} (G : Gs) (n : Nat) (k : Int) (h0 : List ByteArray) (h02 : List Sb) (nx : Int → List ByteArray → List Sb → Option R) (k0 : Bool → Option R) (k1 : List ByteArray → List Sb → Option R) : Option R :=
  bif decide (k < (List.length h02 : Int)) then
    (
    Option.bind (ix h02 k) fun e2 =>
    Option.bind (G.s_l1In (Sb.low e2) 0 (wr ((List.length h0 : Int) - 1))) fun r2 =>
    bif !r2 then
      (k0 false)
    else
      Option.bind (ix h02 k) fun e4 =>
      Option.bind (G.s_l1In (Sb.high e4) 0 (wr ((List.length h0 : Int) - 1))) fun r4 =>
      bif !r4 then
        (k0 false)
      else
        Option.bind (ix h02 k) fun e6 =>
        Option.bind (ix h02 k) fun e8 =>
        bif decide ((Sb.low e6) = (Sb.high e8)) then
          (k0 false)
        else
          nx (wr (k + 1)) h0 h02
    )
  else
    k1 h0 h02
noncomputable def l9 {R : Type} (G : Gs) (n m : Nat) (k : Int) (h0 : List ByteArray) (h02 : List Sb) (k0 : Bool → Option R) (k1 : List ByteArray → List Sb → Option R) : Option R := iter (fun (v : Int × List ByteArray × List Sb) nx => b9 G n v.1 v.2.1 v.2.2 (fun y0 y1 y2 => nx (y0, y1, y2)) k0 k1) m (k, h0, h02)
noncomputable def b18 {R : Type} (G : Gs) (n : Nat) (up1 : List Int) (i : Int) (k : Int) (nx : List Int → Int → Int → Option R) (k0 : Bool → Option R) (k1 : List Int → Int → Option R) : Option R :=
  bif decide (k < i) then
    (
    Option.bind (ix up1 i) fun e =>
    Option.bind (G.s_l2Has e k) fun r =>
    bif r then
      (
      Option.bind (ix up1 k) fun e2 =>
      Option.bind (G.s_l2Has e2 i) fun r2 =>
      bif r2 then
        (k0 false)
      else
        nx up1 i (wr (k + 1))
      )
    else
      nx up1 i (wr (k + 1))
    )
  else
    k1 up1 i
noncomputable def l18 {R : Type} (G : Gs) (n m : Nat) (up1 : List Int) (i : Int) (k : Int) (k0 : Bool → Option R) (k1 : List Int → Int → Option R) : Option R := iter (fun (v : List Int × Int × Int) nx => b18 G n v.1 v.2.1 v.2.2 (fun y0 y1 y2 => nx (y0, y1, y2)) k0 k1) m (up1, i, k)
noncomputable def b15 {R : Type} (G : Gs) (n : Nat) (up1 : List Int) (i : Int) (nx : List Int → Int → Option R) (k0 : Bool → Option R) (k1 : Option R) : Option R :=
  bif decide (i < (List.length up1 : Int)) then
    (
    l18 G n n up1 i 0
      (fun t2 => k0 t2)
      (fun up12 i2 => nx up12 (wr (i2 + 1)))
    )
  else
    k1
noncomputable def l15 {R : Type} (G : Gs) (n m : Nat) (up1 : List Int) (i : Int) (k0 : Bool → Option R) (k1 : Option R) : Option R := iter (fun (v : List Int × Int) nx => b15 G n v.1 v.2 (fun y0 y1 => nx (y0, y1)) k0 k1) m (up1, i)
noncomputable def main {R : Type} (G : Gs) (n : Nat) (s : So) (K : Bool → Option R) : Option R :=
  bif decide ((List.length (So.names s) : Int) < 1) then
    (K false)
  else
    bif decide (8 < (List.length (So.names s) : Int)) then
      (K false)
    else
      bif decide (16 < (List.length (So.subs s) : Int)) then
        (K false)
      else
        l4 G n n 0 (So.names s) (So.subs s)
          (fun t2 => K t2)
          (fun h0 h02 =>
            l9 G n n 0 h0 h02
              (fun t22 => K t22)
              (fun h03 h022 =>
                Option.bind (G.s_l3Up (So.mk h03 h022)) fun r =>
                l15 G n n r 0
                  (fun t23 => K t23)
                  ( K true)
              )
          )
noncomputable def dl4 (G : Gs) (n m : Nat) (R : Type) (st : St) (K : Kt R) : Option R := match st with
  | ⟨[(1, .one (.p 0 0)), (3, .one (.i i))], [.box [.l .s h0, .l (.n 5) h02]]⟩ => l4 G n m i h0 h02 (fun t2 => K .ret ⟨[(2, .one (.b t2))], []⟩) (fun h0 h02 => K (.exit 0) ⟨[(1, .one (.p 0 0))], [.box [.l .s h0, .l (.n 5) h02]]⟩)
  | _ => none
noncomputable def dl9 (G : Gs) (n m : Nat) (R : Type) (st : St) (K : Kt R) : Option R := match st with
  | ⟨[(1, .one (.p 0 0)), (4, .one (.i k))], [.box [.l .s h0, .l (.n 5) h02]]⟩ => l9 G n m k h0 h02 (fun t2 => K .ret ⟨[(2, .one (.b t2))], []⟩) (fun h0 h02 => K (.exit 2) ⟨[(1, .one (.p 0 0))], [.box [.l .s h0, .l (.n 5) h02]]⟩)
  | _ => none
noncomputable def dl18 (G : Gs) (n m : Nat) (R : Type) (st : St) (K : Kt R) : Option R := match st with
  | ⟨[(5, .one (.l .i up1)), (6, .one (.i i)), (7, .one (.i k))], []⟩ => l18 G n m up1 i k (fun t2 => K .ret ⟨[(2, .one (.b t2))], []⟩) (fun up1 i => K (.exit 6) ⟨[(5, .one (.l .i up1)), (6, .one (.i i))], []⟩)
  | _ => none
noncomputable def dl15 (G : Gs) (n m : Nat) (R : Type) (st : St) (K : Kt R) : Option R := match st with
  | ⟨[(5, .one (.l .i up1)), (6, .one (.i i))], []⟩ => l15 G n m up1 i (fun t2 => K .ret ⟨[(2, .one (.b t2))], []⟩) (K (.exit 4) ⟨[], []⟩)
  | _ => none
noncomputable def pc (G : Gs) (n : Nat) : Pcs := ⟨fun R id st K => bif Nat.beq id 4 then dl4 G n n R st K else bif Nat.beq id 9 then dl9 G n n R st K else bif Nat.beq id 18 then dl18 G n n R st K else bif Nat.beq id 15 then dl15 G n n R st K else none, fun _ _ _ _ => none, fun _ _ _ _ => none⟩
noncomputable def an : Ann := ⟨125, 0, [(4, [1, 3]), (9, [1, 4]), (18, [5, 6, 7]), (15, [5, 6])], [], [2], [(6, ⟨[([0, 1, 2, 3, 4, 5, 6, 7, 8, 9, 10, 11, 12, 13, 14, 15, 16, 17, 18], [], [])], [], [], [0], []⟩), (11, ⟨[([0, 1, 2, 3, 4, 5, 6, 7, 8, 9, 10, 11, 12, 13, 14, 15, 16, 17, 18, 19, 20, 21, 22, 23, 24, 25, 26, 27, 28, 29, 30, 31, 32, 33, 34, 35, 36, 37, 38, 39, 40], [], [])], [], [], [0], []⟩)]⟩
theorem s4 (G : Gs) (n m : Nat) (R : Type) (i : Int) (h0 : List ByteArray) (h02 : List Sb) (K : Kt R) : den tb (orcOf (ents G)) (pc G n) an (nthC [1, 1, 0, 1, 0, 0] (bodyOf Try.f24)) ⟨[(1, .one (.p 0 0)), (3, .one (.i i))], [.box [.l .s h0, .l (.n 5) h02]]⟩ (roundK an.refs [1, 3] ⟨[1], [2], [(0, [1])]⟩ (fun st => dl4 G n m R st K) K) = dl4 G n (m + 1) R ⟨[(1, .one (.p 0 0)), (3, .one (.i i))], [.box [.l .s h0, .l (.n 5) h02]]⟩ K := by kernel_rfl
theorem pl4 {G : Gs} (hG : AllE Try.prog (ents G)) (n : Nat) : ∀ m, PieceOK Try.prog an (.loop (nthC [1, 1, 0, 1, 0, 0] (bodyOf Try.f24))) (dl4 G n m) := by
  refine loop_piece mixed tb_ok (orc_ok hG) (pc := pc G n) (lv := [1, 3]) (o := ⟨[1], [2], [(0, [1])]⟩) (by
    have h : pieces an (nthC [1, 1, 0, 1, 0, 0] (bodyOf Try.f24)) = [] := by kernel_rfl
    rw [h]
    exact trivial) (fun R st K => ?_) (fun m R st K r h => ?_)
  · unfold dl4; split <;> rfl
  · have e := h
    unfold dl4 at e
    split at e
    · rename_i x0 x1 x2; exact (s4 G n m R x0 x1 x2 K).trans h
    · cases e
theorem s9 (G : Gs) (n m : Nat) (R : Type) (k : Int) (h0 : List ByteArray) (h02 : List Sb) (K : Kt R) : den tb (orcOf (ents G)) (pc G n) an (nthC [1, 1, 1, 0, 1, 0, 0] (bodyOf Try.f24)) ⟨[(1, .one (.p 0 0)), (4, .one (.i k))], [.box [.l .s h0, .l (.n 5) h02]]⟩ (roundK an.refs [1, 4] ⟨[1], [2], [(2, [1])]⟩ (fun st => dl9 G n m R st K) K) = dl9 G n (m + 1) R ⟨[(1, .one (.p 0 0)), (4, .one (.i k))], [.box [.l .s h0, .l (.n 5) h02]]⟩ K := by kernel_rfl
theorem pl9 {G : Gs} (hG : AllE Try.prog (ents G)) (n : Nat) : ∀ m, PieceOK Try.prog an (.loop (nthC [1, 1, 1, 0, 1, 0, 0] (bodyOf Try.f24))) (dl9 G n m) := by
  refine loop_piece mixed tb_ok (orc_ok hG) (pc := pc G n) (lv := [1, 4]) (o := ⟨[1], [2], [(2, [1])]⟩) (by
    have h : pieces an (nthC [1, 1, 1, 0, 1, 0, 0] (bodyOf Try.f24)) = [] := by kernel_rfl
    rw [h]
    exact trivial) (fun R st K => ?_) (fun m R st K r h => ?_)
  · unfold dl9; split <;> rfl
  · have e := h
    unfold dl9 at e
    split at e
    · rename_i x0 x1 x2; exact (s9 G n m R x0 x1 x2 K).trans h
    · cases e
theorem s18 (G : Gs) (n m : Nat) (R : Type) (up1 : List Int) (i : Int) (k : Int) (K : Kt R) : den tb (orcOf (ents G)) (pc G n) an (nthC [1, 1, 1, 1, 1, 0, 1, 0, 0, 1, 0, 0, 1, 0, 0] (bodyOf Try.f24)) ⟨[(5, .one (.l .i up1)), (6, .one (.i i)), (7, .one (.i k))], []⟩ (roundK an.refs [5, 6, 7] ⟨[5, 6], [2], [(4, []), (5, [5, 6]), (6, [5, 6])]⟩ (fun st => dl18 G n m R st K) K) = dl18 G n (m + 1) R ⟨[(5, .one (.l .i up1)), (6, .one (.i i)), (7, .one (.i k))], []⟩ K := by kernel_rfl
theorem pl18 {G : Gs} (hG : AllE Try.prog (ents G)) (n : Nat) : ∀ m, PieceOK Try.prog an (.loop (nthC [1, 1, 1, 1, 1, 0, 1, 0, 0, 1, 0, 0, 1, 0, 0] (bodyOf Try.f24))) (dl18 G n m) := by
  refine loop_piece mixed tb_ok (orc_ok hG) (pc := pc G n) (lv := [5, 6, 7]) (o := ⟨[5, 6], [2], [(4, []), (5, [5, 6]), (6, [5, 6])]⟩) (by
    have h : pieces an (nthC [1, 1, 1, 1, 1, 0, 1, 0, 0, 1, 0, 0, 1, 0, 0] (bodyOf Try.f24)) = [] := by kernel_rfl
    rw [h]
    exact trivial) (fun R st K => ?_) (fun m R st K r h => ?_)
  · unfold dl18; split <;> rfl
  · have e := h
    unfold dl18 at e
    split at e
    · rename_i x0 x1 x2; exact (s18 G n m R x0 x1 x2 K).trans h
    · cases e
theorem s15 (G : Gs) (n m : Nat) (R : Type) (up1 : List Int) (i : Int) (K : Kt R) : den tb (orcOf (ents G)) (pc G n) an (nthC [1, 1, 1, 1, 1, 0, 1, 0, 0] (bodyOf Try.f24)) ⟨[(5, .one (.l .i up1)), (6, .one (.i i))], []⟩ (roundK an.refs [5, 6] ⟨[], [2], [(4, [])]⟩ (fun st => dl15 G n m R st K) K) = dl15 G n (m + 1) R ⟨[(5, .one (.l .i up1)), (6, .one (.i i))], []⟩ K := by kernel_rfl
theorem pl15 {G : Gs} (hG : AllE Try.prog (ents G)) (n : Nat) : ∀ m, PieceOK Try.prog an (.loop (nthC [1, 1, 1, 1, 1, 0, 1, 0, 0] (bodyOf Try.f24))) (dl15 G n m) := by
  refine loop_piece mixed tb_ok (orc_ok hG) (pc := pc G n) (lv := [5, 6]) (o := ⟨[], [2], [(4, [])]⟩) (by
    have h : pieces an (nthC [1, 1, 1, 1, 1, 0, 1, 0, 0] (bodyOf Try.f24)) = [(1, 18, .loop (nthC [1, 1, 1, 1, 1, 0, 1, 0, 0, 1, 0, 0, 1, 0, 0] (bodyOf Try.f24)))] := by kernel_rfl
    rw [h]
    exact ⟨pl18 hG n n, trivial⟩) (fun R st K => ?_) (fun m R st K r h => ?_)
  · unfold dl15; split <;> rfl
  · have e := h
    unfold dl15 at e
    split at e
    · rename_i x0 x1; exact (s15 G n m R x0 x1 K).trans h
    · cases e
theorem allp {G : Gs} (hG : AllE Try.prog (ents G)) (n : Nat) : AllP Try.prog an (pc G n) (pieces an (bodyOf Try.f24)) := by
    have h : pieces an (bodyOf Try.f24) = [(1, 4, .loop (nthC [1, 1, 0, 1, 0, 0] (bodyOf Try.f24))), (1, 9, .loop (nthC [1, 1, 1, 0, 1, 0, 0] (bodyOf Try.f24))), (1, 15, .loop (nthC [1, 1, 1, 1, 1, 0, 1, 0, 0] (bodyOf Try.f24)))] := by kernel_rfl
    rw [h]
    exact ⟨pl4 hG n n, ⟨pl9 hG n n, ⟨pl15 hG n n, trivial⟩⟩⟩
/-- What the function computes. -/
noncomputable def Does (G : Gs) (s : So) (r : Bool) : Prop := ∃ n, main (R := AT × List Ob) G n s (fun r0 => some (.one (.b r0), [])) = some (.one (.b r), [])
theorem eq (G : Gs) (n : Nat) (s : So) : den tb (orcOf (ents G)) (pc G n) an (bodyOf Try.f24) ⟨argsD 0 [.agg [.l .s (So.names s), .l (.n 5) (So.subs s)]], []⟩ (atEnd (finF tb an [.tmp 2])) = main (R := AT × List Ob) G n s (fun r0 => some (.one (.b r0), [])) := by kernel_rfl
theorem ok {G : Gs} (hG : AllE Try.prog (ents G)) {g : So → Option (Bool)} (hg : ∀ s r, g s = some r → Does G s r) : EntOK Try.prog (ent g) := fun R xs H K r hc => by
  simp only [ent] at hc
  split at hc
  · rename_i a a2
    obtain ⟨r, q1, q2⟩ := bind_some hc
    obtain ⟨n, q3⟩ := hg (So.mk a a2) _ q1
    exact ⟨_, _, q2, fn_of_den (pc := pc G n) (an := an) (xs := [.agg [.l .s a, .l (.n 5) a2]]) (H := []) (fin := finF tb an [.tmp 2]) mixed tb_ok (orc_ok hG) (fn := Try.f24) (c := bodyOf Try.f24) Try.func24 (by kernel_rfl) (by kernel_rfl) (by kernel_rfl) (by kernel_rfl) (by kernel_rfl) (rs := [.tmp 2]) (by kernel_rfl) (.inl rfl) (allp hG n) ((eq G n (So.mk a a2)).trans q3)⟩
  · cases hc
end s_IsSorts
namespace s_l4Arity
structure Gs where
  none_ : Unit
noncomputable def ents (_ : Gs) : List Ent := []
noncomputable def main {R : Type} (G : Gs) (n : Nat) (op : Opr) (K : Int → Option R) : Option R :=
  Option.bind (ix (Opr.decls op) 0) fun e =>
  K (List.length (Dc.args e) : Int)
noncomputable def pc (_ : Gs) (_ : Nat) : Pcs := ⟨fun _ _ _ _ => none, fun _ _ _ _ => none, fun _ _ _ _ => none⟩
noncomputable def an : Ann := ⟨9, 0, [], [], [2], []⟩
theorem allp {G : Gs} (hG : AllE Try.prog (ents G)) (n : Nat) : AllP Try.prog an (pc G n) (pieces an (bodyOf Try.f43)) := by
    have h : pieces an (bodyOf Try.f43) = [] := by kernel_rfl
    rw [h]
    exact trivial
/-- What the function computes. -/
noncomputable def Does (G : Gs) (op : Opr) (r : Int) : Prop := ∃ n, main (R := AT × List Ob) G n op (fun r0 => some (.one (.i r0), [])) = some (.one (.i r), [])
theorem eq (G : Gs) (n : Nat) (op : Opr) : den tb (orcOf (ents G)) (pc G n) an (bodyOf Try.f43) ⟨argsD 0 [.agg [.s (Opr.name op), .l (.n 7) (Opr.decls op), .b (Opr.assoc op), .b (Opr.comm op), .i (Opr.unit op)]], []⟩ (atEnd (finF tb an [.tmp 2])) = main (R := AT × List Ob) G n op (fun r0 => some (.one (.i r0), [])) := by kernel_rfl
theorem ok {G : Gs} (hG : AllE Try.prog (ents G)) {g : Opr → Option (Int)} (hg : ∀ op r, g op = some r → Does G op r) : EntOK Try.prog (ent g) := fun R xs H K r hc => by
  simp only [ent] at hc
  split at hc
  · rename_i a a2 a3 a4 a5
    obtain ⟨r, q1, q2⟩ := bind_some hc
    obtain ⟨n, q3⟩ := hg (Opr.mk a a2 a3 a4 a5) _ q1
    exact ⟨_, _, q2, fn_of_den (pc := pc G n) (an := an) (xs := [.agg [.s a, .l (.n 7) a2, .b a3, .b a4, .i a5]]) (H := []) (fin := finF tb an [.tmp 2]) mixed tb_ok (orc_ok hG) (fn := Try.f43) (c := bodyOf Try.f43) Try.func43 (by kernel_rfl) (by kernel_rfl) (by kernel_rfl) (by kernel_rfl) (by kernel_rfl) (rs := [.tmp 2]) (by kernel_rfl) (.inl rfl) (allp hG n) ((eq G n (Opr.mk a a2 a3 a4 a5)).trans q3)⟩
  · cases hc
end s_l4Arity
namespace s_l4Decls
structure Gs where
  s_l3Kinds : So → Option (List Int)
  s_l1In : Int → Int → Int → Option (Bool)
noncomputable def ents (G : Gs) : List Ent := [s_l3Kinds.ent G.s_l3Kinds, s_l1In.ent G.s_l1In]
noncomputable def b12 {R : Type} (G : Gs) (n : Nat) (kinds : List Int) (i : Int) (k : Int) (h0 : ByteArray) (h02 : List Dc) (h03 : Bool) (h04 : Bool) (h05 : Int) (h1 : List Int) (h12 : Int) (h2 : List Int) (h22 : Int) (nx : List Int → Int → Int → ByteArray → List Dc → Bool → Bool → Int → List Int → Int → List Int → Int → Option R) (k0 : Bool → Option R) (k1 : List Int → Int → ByteArray → List Dc → Bool → Bool → Int → List Int → Int → List Int → Int → Option R) : Option R :=
  bif decide (k < (List.length h2 : Int)) then
    (
    Option.bind (ix h2 k) fun e2 =>
    Option.bind (G.s_l1In e2 0 (wr ((List.length kinds : Int) - 1))) fun r2 =>
    bif !r2 then
      (k0 false)
    else
      Option.bind (ix h2 k) fun e4 =>
      Option.bind (ix kinds e4) fun e6 =>
      Option.bind (ix h1 k) fun e8 =>
      Option.bind (ix kinds e8) fun e10 =>
      bif !decide (e6 = e10) then
        (k0 false)
      else
        nx kinds i (wr (k + 1)) h0 h02 h03 h04 h05 h1 h12 h2 h22
    )
  else
    k1 kinds i h0 h02 h03 h04 h05 h1 h12 h2 h22
noncomputable def l12 {R : Type} (G : Gs) (n m : Nat) (kinds : List Int) (i : Int) (k : Int) (h0 : ByteArray) (h02 : List Dc) (h03 : Bool) (h04 : Bool) (h05 : Int) (h1 : List Int) (h12 : Int) (h2 : List Int) (h22 : Int) (k0 : Bool → Option R) (k1 : List Int → Int → ByteArray → List Dc → Bool → Bool → Int → List Int → Int → List Int → Int → Option R) : Option R := iter (fun (v : List Int × Int × Int × ByteArray × List Dc × Bool × Bool × Int × List Int × Int × List Int × Int) nx => b12 G n v.1 v.2.1 v.2.2.1 v.2.2.2.1 v.2.2.2.2.1 v.2.2.2.2.2.1 v.2.2.2.2.2.2.1 v.2.2.2.2.2.2.2.1 v.2.2.2.2.2.2.2.2.1 v.2.2.2.2.2.2.2.2.2.1 v.2.2.2.2.2.2.2.2.2.2.1 v.2.2.2.2.2.2.2.2.2.2.2 (fun y0 y1 y2 y3 y4 y5 y6 y7 y8 y9 y10 y11 => nx (y0, y1, y2, y3, y4, y5, y6, y7, y8, y9, y10, y11)) k0 k1) m (kinds, i, k, h0, h02, h03, h04, h05, h1, h12, h2, h22)
noncomputable def b6 {R : Type} (G : Gs) (n : Nat) (kinds : List Int) (i : Int) (h0 : ByteArray) (h02 : List Dc) (h03 : Bool) (h04 : Bool) (h05 : Int) (h1 : List Int) (h12 : Int) (nx : List Int → Int → ByteArray → List Dc → Bool → Bool → Int → List Int → Int → Option R) (k0 : Bool → Option R) (k1 : Option R) : Option R :=
  bif decide (i < (List.length h02 : Int)) then
    (
    Option.bind (ix h02 i) fun e =>
    bif !decide ((List.length (Dc.args e) : Int) = (List.length h1 : Int)) then
      (k0 false)
    else
      Option.bind (G.s_l1In (Dc.result e) 0 (wr ((List.length kinds : Int) - 1))) fun r =>
      bif !r then
        (k0 false)
      else
        l12 G n n kinds i 0 h0 h02 h03 h04 h05 h1 h12 (Dc.args e) (Dc.result e)
          (fun t4 => k0 t4)
          (fun kinds2 i2 h06 h022 h032 h042 h052 h13 h122 h2 h22 =>
            Option.bind (ix kinds2 h22) fun e3 =>
            Option.bind (ix kinds2 h122) fun e5 =>
            bif !decide (e3 = e5) then
              (k0 false)
            else
              nx kinds2 (wr (i2 + 1)) h06 h022 h032 h042 h052 h13 h122
          )
    )
  else
    k1
noncomputable def l6 {R : Type} (G : Gs) (n m : Nat) (kinds : List Int) (i : Int) (h0 : ByteArray) (h02 : List Dc) (h03 : Bool) (h04 : Bool) (h05 : Int) (h1 : List Int) (h12 : Int) (k0 : Bool → Option R) (k1 : Option R) : Option R := iter (fun (v : List Int × Int × ByteArray × List Dc × Bool × Bool × Int × List Int × Int) nx => b6 G n v.1 v.2.1 v.2.2.1 v.2.2.2.1 v.2.2.2.2.1 v.2.2.2.2.2.1 v.2.2.2.2.2.2.1 v.2.2.2.2.2.2.2.1 v.2.2.2.2.2.2.2.2 (fun y0 y1 y2 y3 y4 y5 y6 y7 y8 => nx (y0, y1, y2, y3, y4, y5, y6, y7, y8)) k0 k1) m (kinds, i, h0, h02, h03, h04, h05, h1, h12)
noncomputable def main {R : Type} (G : Gs) (n : Nat) (s : Sg) (op : Opr) (K : Bool → Option R) : Option R :=
  bif decide ((List.length (Opr.decls op) : Int) < 1) then
    (K false)
  else
    bif decide (4 < (List.length (Opr.decls op) : Int)) then
      (K false)
    else
      Option.bind (ix (Opr.decls op) 0) fun e =>
      bif decide (3 < (List.length (Dc.args e) : Int)) then
        (K false)
      else
        Option.bind (G.s_l3Kinds (Sg.sorts s)) fun r =>
        Option.bind (ix (Opr.decls op) 0) fun e2 =>
        l6 G n n r 0 (Opr.name op) (Opr.decls op) (Opr.assoc op) (Opr.comm op) (Opr.unit op) (Dc.args e2) (Dc.result e2)
          (fun t4 => K t4)
          ( K true)
noncomputable def dl12 (G : Gs) (n m : Nat) (R : Type) (st : St) (K : Kt R) : Option R := match st with
  | ⟨[(3, .one (.p 0 0)), (5, .one (.l .i kinds)), (6, .one (.p 1 0)), (7, .one (.i i)), (8, .one (.p 2 0)), (9, .one (.i k))], [.box [.s h0, .l (.n 7) h02, .b h03, .b h04, .i h05], .box [.l .i h1, .i h12], .box [.l .i h2, .i h22]]⟩ => l12 G n m kinds i k h0 h02 h03 h04 h05 h1 h12 h2 h22 (fun t4 => K .ret ⟨[(4, .one (.b t4))], []⟩) (fun kinds i h0 h02 h03 h04 h05 h1 h12 h2 h22 => K (.exit 2) ⟨[(3, .one (.p 0 0)), (5, .one (.l .i kinds)), (6, .one (.p 1 0)), (7, .one (.i i)), (8, .one (.p 2 0))], [.box [.s h0, .l (.n 7) h02, .b h03, .b h04, .i h05], .box [.l .i h1, .i h12], .box [.l .i h2, .i h22]]⟩)
  | _ => none
noncomputable def dl6 (G : Gs) (n m : Nat) (R : Type) (st : St) (K : Kt R) : Option R := match st with
  | ⟨[(3, .one (.p 0 0)), (5, .one (.l .i kinds)), (6, .one (.p 1 0)), (7, .one (.i i))], [.box [.s h0, .l (.n 7) h02, .b h03, .b h04, .i h05], .box [.l .i h1, .i h12]]⟩ => l6 G n m kinds i h0 h02 h03 h04 h05 h1 h12 (fun t4 => K .ret ⟨[(4, .one (.b t4))], []⟩) (K (.exit 0) ⟨[], []⟩)
  | _ => none
noncomputable def pc (G : Gs) (n : Nat) : Pcs := ⟨fun R id st K => bif Nat.beq id 12 then dl12 G n n R st K else bif Nat.beq id 6 then dl6 G n n R st K else none, fun _ _ _ _ => none, fun _ _ _ _ => none⟩
noncomputable def an : Ann := ⟨111, 0, [(12, [3, 5, 6, 7, 8, 9]), (6, [3, 5, 6, 7])], [], [4], [(14, ⟨[([0, 1, 2, 3, 4, 5, 6, 7, 8, 9, 10, 11, 12, 13, 14, 15, 16, 17, 18, 19, 20, 21, 22, 23, 24, 25, 26, 27, 28], [], [])], [], [], [0, 1, 2], []⟩), (16, ⟨[([0, 1, 2, 3, 4, 5, 6, 7, 8, 9, 10], [], [])], [], [], [0, 1, 2], []⟩)]⟩
theorem s12 (G : Gs) (n m : Nat) (R : Type) (kinds : List Int) (i : Int) (k : Int) (h0 : ByteArray) (h02 : List Dc) (h03 : Bool) (h04 : Bool) (h05 : Int) (h1 : List Int) (h12 : Int) (h2 : List Int) (h22 : Int) (K : Kt R) : den tb (orcOf (ents G)) (pc G n) an (nthC [1, 1, 1, 1, 0, 1, 0, 0, 1, 0, 0, 1, 1, 0, 1, 0, 0] (bodyOf Try.f26)) ⟨[(3, .one (.p 0 0)), (5, .one (.l .i kinds)), (6, .one (.p 1 0)), (7, .one (.i i)), (8, .one (.p 2 0)), (9, .one (.i k))], [.box [.s h0, .l (.n 7) h02, .b h03, .b h04, .i h05], .box [.l .i h1, .i h12], .box [.l .i h2, .i h22]]⟩ (roundK an.refs [3, 5, 6, 7, 8, 9] ⟨[3, 5, 6, 7, 8], [4], [(0, []), (1, [3, 5, 6, 7]), (2, [3, 5, 6, 7, 8])]⟩ (fun st => dl12 G n m R st K) K) = dl12 G n (m + 1) R ⟨[(3, .one (.p 0 0)), (5, .one (.l .i kinds)), (6, .one (.p 1 0)), (7, .one (.i i)), (8, .one (.p 2 0)), (9, .one (.i k))], [.box [.s h0, .l (.n 7) h02, .b h03, .b h04, .i h05], .box [.l .i h1, .i h12], .box [.l .i h2, .i h22]]⟩ K := by kernel_rfl
theorem pl12 {G : Gs} (hG : AllE Try.prog (ents G)) (n : Nat) : ∀ m, PieceOK Try.prog an (.loop (nthC [1, 1, 1, 1, 0, 1, 0, 0, 1, 0, 0, 1, 1, 0, 1, 0, 0] (bodyOf Try.f26))) (dl12 G n m) := by
  refine loop_piece mixed tb_ok (orc_ok hG) (pc := pc G n) (lv := [3, 5, 6, 7, 8, 9]) (o := ⟨[3, 5, 6, 7, 8], [4], [(0, []), (1, [3, 5, 6, 7]), (2, [3, 5, 6, 7, 8])]⟩) (by
    have h : pieces an (nthC [1, 1, 1, 1, 0, 1, 0, 0, 1, 0, 0, 1, 1, 0, 1, 0, 0] (bodyOf Try.f26)) = [] := by kernel_rfl
    rw [h]
    exact trivial) (fun R st K => ?_) (fun m R st K r h => ?_)
  · unfold dl12; split <;> rfl
  · have e := h
    unfold dl12 at e
    split at e
    · rename_i x0 x1 x2 x3 x4 x5 x6 x7 x8 x9 x10 x11; exact (s12 G n m R x0 x1 x2 x3 x4 x5 x6 x7 x8 x9 x10 x11 K).trans h
    · cases e
theorem s6 (G : Gs) (n m : Nat) (R : Type) (kinds : List Int) (i : Int) (h0 : ByteArray) (h02 : List Dc) (h03 : Bool) (h04 : Bool) (h05 : Int) (h1 : List Int) (h12 : Int) (K : Kt R) : den tb (orcOf (ents G)) (pc G n) an (nthC [1, 1, 1, 1, 0, 1, 0, 0] (bodyOf Try.f26)) ⟨[(3, .one (.p 0 0)), (5, .one (.l .i kinds)), (6, .one (.p 1 0)), (7, .one (.i i))], [.box [.s h0, .l (.n 7) h02, .b h03, .b h04, .i h05], .box [.l .i h1, .i h12]]⟩ (roundK an.refs [3, 5, 6, 7] ⟨[], [4], [(0, [])]⟩ (fun st => dl6 G n m R st K) K) = dl6 G n (m + 1) R ⟨[(3, .one (.p 0 0)), (5, .one (.l .i kinds)), (6, .one (.p 1 0)), (7, .one (.i i))], [.box [.s h0, .l (.n 7) h02, .b h03, .b h04, .i h05], .box [.l .i h1, .i h12]]⟩ K := by kernel_rfl
theorem pl6 {G : Gs} (hG : AllE Try.prog (ents G)) (n : Nat) : ∀ m, PieceOK Try.prog an (.loop (nthC [1, 1, 1, 1, 0, 1, 0, 0] (bodyOf Try.f26))) (dl6 G n m) := by
  refine loop_piece mixed tb_ok (orc_ok hG) (pc := pc G n) (lv := [3, 5, 6, 7]) (o := ⟨[], [4], [(0, [])]⟩) (by
    have h : pieces an (nthC [1, 1, 1, 1, 0, 1, 0, 0] (bodyOf Try.f26)) = [(1, 12, .loop (nthC [1, 1, 1, 1, 0, 1, 0, 0, 1, 0, 0, 1, 1, 0, 1, 0, 0] (bodyOf Try.f26)))] := by kernel_rfl
    rw [h]
    exact ⟨pl12 hG n n, trivial⟩) (fun R st K => ?_) (fun m R st K r h => ?_)
  · unfold dl6; split <;> rfl
  · have e := h
    unfold dl6 at e
    split at e
    · rename_i x0 x1 x2 x3 x4 x5 x6 x7 x8; exact (s6 G n m R x0 x1 x2 x3 x4 x5 x6 x7 x8 K).trans h
    · cases e
theorem allp {G : Gs} (hG : AllE Try.prog (ents G)) (n : Nat) : AllP Try.prog an (pc G n) (pieces an (bodyOf Try.f26)) := by
    have h : pieces an (bodyOf Try.f26) = [(1, 6, .loop (nthC [1, 1, 1, 1, 0, 1, 0, 0] (bodyOf Try.f26)))] := by kernel_rfl
    rw [h]
    exact ⟨pl6 hG n n, trivial⟩
/-- What the function computes. -/
noncomputable def Does (G : Gs) (s : Sg) (op : Opr) (r : Bool) : Prop := ∃ n, main (R := AT × List Ob) G n s op (fun r0 => some (.one (.b r0), [])) = some (.one (.b r), [])
theorem eq (G : Gs) (n : Nat) (s : Sg) (op : Opr) : den tb (orcOf (ents G)) (pc G n) an (bodyOf Try.f26) ⟨argsD 0 [.agg [.l .s (So.names (Sg.sorts s)), .l (.n 5) (So.subs (Sg.sorts s)), .l (.n 8) (Sg.ops s)], .agg [.s (Opr.name op), .l (.n 7) (Opr.decls op), .b (Opr.assoc op), .b (Opr.comm op), .i (Opr.unit op)]], []⟩ (atEnd (finF tb an [.tmp 4])) = main (R := AT × List Ob) G n s op (fun r0 => some (.one (.b r0), [])) := by kernel_rfl
theorem ok {G : Gs} (hG : AllE Try.prog (ents G)) {g : Sg → Opr → Option (Bool)} (hg : ∀ s op r, g s op = some r → Does G s op r) : EntOK Try.prog (ent g) := fun R xs H K r hc => by
  simp only [ent] at hc
  split at hc
  · rename_i a a2 a3 a4 a5 a6 a7 a8
    obtain ⟨r, q1, q2⟩ := bind_some hc
    obtain ⟨n, q3⟩ := hg (Sg.mk (So.mk a a2) a3) (Opr.mk a4 a5 a6 a7 a8) _ q1
    exact ⟨_, _, q2, fn_of_den (pc := pc G n) (an := an) (xs := [.agg [.l .s a, .l (.n 5) a2, .l (.n 8) a3], .agg [.s a4, .l (.n 7) a5, .b a6, .b a7, .i a8]]) (H := []) (fin := finF tb an [.tmp 4]) mixed tb_ok (orc_ok hG) (fn := Try.f26) (c := bodyOf Try.f26) Try.func26 (by kernel_rfl) (by kernel_rfl) (by kernel_rfl) (by kernel_rfl) (by kernel_rfl) (rs := [.tmp 4]) (by kernel_rfl) (.inl rfl) (allp hG n) ((eq G n (Sg.mk (So.mk a a2) a3) (Opr.mk a4 a5 a6 a7 a8)).trans q3)⟩
  · cases hc
end s_l4Decls
namespace s_l4Axioms
structure Gs where
  s_l4Arity : Opr → Option (Int)
  s_l1In : Int → Int → Int → Option (Bool)
  s_l3Kinds : So → Option (List Int)
noncomputable def ents (G : Gs) : List Ent := [s_l4Arity.ent G.s_l4Arity, s_l1In.ent G.s_l1In, s_l3Kinds.ent G.s_l3Kinds]
noncomputable def c11 {R : Type} (G : Gs) (n : Nat) (kinds : List Int) (r : Int) (h0 : List ByteArray) (h02 : List Sb) (h03 : List Opr) (h1 : ByteArray) (h12 : List Dc) (h13 : Bool) (h14 : Bool) (h15 : Int) (k0 : Bool → Option R) : Option R :=
  bif decide (h15 = 0) then
    (k0 true)
  else
    Option.bind (ix h03 (wr (h15 - 1))) fun e =>
    Option.bind (G.s_l4Arity e) fun r2 =>
    bif decide (r2 = 0) then
      (
      Option.bind (ix (Opr.decls e) 0) fun e2 =>
      Option.bind (ix kinds (Dc.result e2)) fun e3 =>
      k0 (decide (e3 = r))
      )
    else
      k0 false
noncomputable def c4 {R : Type} (G : Gs) (n : Nat) (h0 : List ByteArray) (h02 : List Sb) (h03 : List Opr) (h1 : ByteArray) (h12 : List Dc) (h13 : Bool) (h14 : Bool) (h15 : Int) (k0 : Bool → Option R) : Option R :=
  Option.bind (G.s_l4Arity (Opr.mk h1 h12 h13 h14 h15)) fun r =>
  bif !decide (r = 2) then
    (k0 false)
  else
    Option.bind (G.s_l1In h15 0 (List.length h03 : Int)) fun r2 =>
    bif !r2 then
      (k0 false)
    else
      Option.bind (G.s_l3Kinds (So.mk h0 h02)) fun r3 =>
      Option.bind (ix h12 0) fun e =>
      Option.bind (ix (Dc.args e) 0) fun e3 =>
      Option.bind (ix r3 e3) fun e5 =>
      Option.bind (ix (Dc.args e) 1) fun e7 =>
      Option.bind (ix r3 e7) fun e9 =>
      Option.bind (ix r3 (Dc.result e)) fun e11 =>
      bif !decide (e5 = e9) then
        (k0 false)
      else
        bif h13 then
          (
          bif !decide (e5 = e11) then
            (k0 false)
          else
            c11 G n r3 e11 h0 h02 h03 h1 h12 h13 h14 h15
              (fun t4 => k0 t4)
          )
        else
          bif decide (0 < h15) then
            (
            bif !decide (e5 = e11) then
              (k0 false)
            else
              c11 G n r3 e11 h0 h02 h03 h1 h12 h13 h14 h15
                (fun t42 => k0 t42)
            )
          else
            c11 G n r3 e11 h0 h02 h03 h1 h12 h13 h14 h15
              (fun t43 => k0 t43)
noncomputable def main {R : Type} (G : Gs) (n : Nat) (s : Sg) (i : Int) (K : Bool → Option R) : Option R :=
  Option.bind (ix (Sg.ops s) i) fun e =>
  bif !(Opr.assoc e) then
    (
    bif !(Opr.comm e) then
      (
      bif decide ((Opr.unit e) = 0) then
        (K true)
      else
        c4 G n (So.names (Sg.sorts s)) (So.subs (Sg.sorts s)) (Sg.ops s) (Opr.name e) (Opr.decls e) (Opr.assoc e) (Opr.comm e) (Opr.unit e)
          (fun t4 => K t4)
      )
    else
      c4 G n (So.names (Sg.sorts s)) (So.subs (Sg.sorts s)) (Sg.ops s) (Opr.name e) (Opr.decls e) (Opr.assoc e) (Opr.comm e) (Opr.unit e)
        (fun t42 => K t42)
    )
  else
    c4 G n (So.names (Sg.sorts s)) (So.subs (Sg.sorts s)) (Sg.ops s) (Opr.name e) (Opr.decls e) (Opr.assoc e) (Opr.comm e) (Opr.unit e)
      (fun t43 => K t43)
noncomputable def dc11 (G : Gs) (n : Nat) (R : Type) (st : St) (K : Kt R) : Option R := match st with
  | ⟨[(2, .one (.p 0 0)), (5, .one (.p 1 0)), (6, .one (.l .i kinds)), (10, .one (.i r))], [.box [.l .s h0, .l (.n 5) h02, .l (.n 8) h03], .box [.s h1, .l (.n 7) h12, .b h13, .b h14, .i h15]]⟩ => c11 G n kinds r h0 h02 h03 h1 h12 h13 h14 h15 (fun t4 => K .ret ⟨[(4, .one (.b t4))], []⟩)
  | _ => none
noncomputable def dc4 (G : Gs) (n : Nat) (R : Type) (st : St) (K : Kt R) : Option R := match st with
  | ⟨[(2, .one (.p 0 0)), (5, .one (.p 1 0))], [.box [.l .s h0, .l (.n 5) h02, .l (.n 8) h03], .box [.s h1, .l (.n 7) h12, .b h13, .b h14, .i h15]]⟩ => c4 G n h0 h02 h03 h1 h12 h13 h14 h15 (fun t4 => K .ret ⟨[(4, .one (.b t4))], []⟩)
  | _ => none
noncomputable def pc (G : Gs) (n : Nat) : Pcs := ⟨fun _ _ _ _ => none, fun R id st K => bif Nat.beq id 11 then dc11 G n R st K else bif Nat.beq id 4 then dc4 G n R st K else none, fun _ _ _ _ => none⟩
noncomputable def an : Ann := ⟨110, 0, [], [(11, [2, 5, 6, 10]), (4, [2, 5])], [4], [(8, ⟨[([0, 1, 2, 3, 4, 5, 6, 7, 8, 9, 10, 11, 12, 13, 14, 15, 16, 17, 18, 19, 20, 21], [], [])], [], [], [0, 1, 2], []⟩)]⟩
theorem s11 (G : Gs) (n : Nat) (R : Type) (kinds : List Int) (r : Int) (h0 : List ByteArray) (h02 : List Sb) (h03 : List Opr) (h1 : ByteArray) (h12 : List Dc) (h13 : Bool) (h14 : Bool) (h15 : Int) (K : Kt R) : den tb (orcOf (ents G)) (pc G n) an (nthC [1, 1, 1, 1, 1, 1, 1, 1] (bodyOf Try.f27)) ⟨[(2, .one (.p 0 0)), (5, .one (.p 1 0)), (6, .one (.l .i kinds)), (10, .one (.i r))], [.box [.l .s h0, .l (.n 5) h02, .l (.n 8) h03], .box [.s h1, .l (.n 7) h12, .b h13, .b h14, .i h15]]⟩ (outK an.refs ⟨[], [4], []⟩ K) = dc11 G n R ⟨[(2, .one (.p 0 0)), (5, .one (.p 1 0)), (6, .one (.l .i kinds)), (10, .one (.i r))], [.box [.l .s h0, .l (.n 5) h02, .l (.n 8) h03], .box [.s h1, .l (.n 7) h12, .b h13, .b h14, .i h15]]⟩ K := by kernel_rfl
theorem pc11 {G : Gs} (hG : AllE Try.prog (ents G)) {n : Nat} : PieceOK Try.prog an (nthC [1, 1, 1, 1, 1, 1, 1, 1] (bodyOf Try.f27)) (dc11 G n) := by
  refine cut_piece mixed tb_ok (orc_ok hG) (pc := pc G n) (o := ⟨[], [4], []⟩) (by
    have h : pieces an (nthC [1, 1, 1, 1, 1, 1, 1, 1] (bodyOf Try.f27)) = [] := by kernel_rfl
    rw [h]
    exact trivial) (fun R st K r h => ?_)
  have e := h
  unfold dc11 at e
  split at e
  · rename_i x0 x1 x2 x3 x4 x5 x6 x7 x8 x9; exact (s11 G n R x0 x1 x2 x3 x4 x5 x6 x7 x8 x9 K).trans h
  · cases e
theorem s4 (G : Gs) (n : Nat) (R : Type) (h0 : List ByteArray) (h02 : List Sb) (h03 : List Opr) (h1 : ByteArray) (h12 : List Dc) (h13 : Bool) (h14 : Bool) (h15 : Int) (K : Kt R) : den tb (orcOf (ents G)) (pc G n) an (nthC [1, 1, 1] (bodyOf Try.f27)) ⟨[(2, .one (.p 0 0)), (5, .one (.p 1 0))], [.box [.l .s h0, .l (.n 5) h02, .l (.n 8) h03], .box [.s h1, .l (.n 7) h12, .b h13, .b h14, .i h15]]⟩ (outK an.refs ⟨[], [4], []⟩ K) = dc4 G n R ⟨[(2, .one (.p 0 0)), (5, .one (.p 1 0))], [.box [.l .s h0, .l (.n 5) h02, .l (.n 8) h03], .box [.s h1, .l (.n 7) h12, .b h13, .b h14, .i h15]]⟩ K := by kernel_rfl
theorem pc4 {G : Gs} (hG : AllE Try.prog (ents G)) {n : Nat} : PieceOK Try.prog an (nthC [1, 1, 1] (bodyOf Try.f27)) (dc4 G n) := by
  refine cut_piece mixed tb_ok (orc_ok hG) (pc := pc G n) (o := ⟨[], [4], []⟩) (by
    have h : pieces an (nthC [1, 1, 1] (bodyOf Try.f27)) = [(0, 11, nthC [1, 1, 1, 1, 1, 1, 1, 1] (bodyOf Try.f27))] := by kernel_rfl
    rw [h]
    exact ⟨pc11 hG, trivial⟩) (fun R st K r h => ?_)
  have e := h
  unfold dc4 at e
  split at e
  · rename_i x0 x1 x2 x3 x4 x5 x6 x7; exact (s4 G n R x0 x1 x2 x3 x4 x5 x6 x7 K).trans h
  · cases e
theorem allp {G : Gs} (hG : AllE Try.prog (ents G)) (n : Nat) : AllP Try.prog an (pc G n) (pieces an (bodyOf Try.f27)) := by
    have h : pieces an (bodyOf Try.f27) = [(0, 4, nthC [1, 1, 1] (bodyOf Try.f27))] := by kernel_rfl
    rw [h]
    exact ⟨pc4 hG, trivial⟩
/-- What the function computes. -/
noncomputable def Does (G : Gs) (s : Sg) (i : Int) (r : Bool) : Prop := ∃ n, main (R := AT × List Ob) G n s i (fun r0 => some (.one (.b r0), [])) = some (.one (.b r), [])
theorem eq (G : Gs) (n : Nat) (s : Sg) (i : Int) : den tb (orcOf (ents G)) (pc G n) an (bodyOf Try.f27) ⟨argsD 0 [.agg [.l .s (So.names (Sg.sorts s)), .l (.n 5) (So.subs (Sg.sorts s)), .l (.n 8) (Sg.ops s)], .one (.i i)], []⟩ (atEnd (finF tb an [.tmp 4])) = main (R := AT × List Ob) G n s i (fun r0 => some (.one (.b r0), [])) := by kernel_rfl
theorem ok {G : Gs} (hG : AllE Try.prog (ents G)) {g : Sg → Int → Option (Bool)} (hg : ∀ s i r, g s i = some r → Does G s i r) : EntOK Try.prog (ent g) := fun R xs H K r hc => by
  simp only [ent] at hc
  split at hc
  · rename_i a a2 a3 a4
    obtain ⟨r, q1, q2⟩ := bind_some hc
    obtain ⟨n, q3⟩ := hg (Sg.mk (So.mk a a2) a3) a4 _ q1
    exact ⟨_, _, q2, fn_of_den (pc := pc G n) (an := an) (xs := [.agg [.l .s a, .l (.n 5) a2, .l (.n 8) a3], .one (.i a4)]) (H := []) (fin := finF tb an [.tmp 4]) mixed tb_ok (orc_ok hG) (fn := Try.f27) (c := bodyOf Try.f27) Try.func27 (by kernel_rfl) (by kernel_rfl) (by kernel_rfl) (by kernel_rfl) (by kernel_rfl) (rs := [.tmp 4]) (by kernel_rfl) (.inl rfl) (allp hG n) ((eq G n (Sg.mk (So.mk a a2) a3) a4).trans q3)⟩
  · cases hc
end s_l4Axioms
namespace s_IsSignature
structure Gs where
  s_IsSorts : So → Option (Bool)
  s_IsName : ByteArray → Option (Bool)
  s_l4Decls : Sg → Opr → Option (Bool)
  s_l4Axioms : Sg → Int → Option (Bool)
noncomputable def ents (G : Gs) : List Ent := [s_IsSorts.ent G.s_IsSorts, s_IsName.ent G.s_IsName, s_l4Decls.ent G.s_l4Decls, s_l4Axioms.ent G.s_l4Axioms]
noncomputable def b9 {R : Type} (G : Gs) (n : Nat) (i : Int) (k : Int) (h0 : List ByteArray) (h02 : List Sb) (h03 : List Opr) (nx : Int → Int → List ByteArray → List Sb → List Opr → Option R) (k0 : Bool → Option R) (k1 : Int → List ByteArray → List Sb → List Opr → Option R) : Option R :=
  bif decide (k < i) then
    (
    Option.bind (ix h03 k) fun e2 =>
    Option.bind (ix h03 i) fun e4 =>
    bif sEq (Opr.name e2) (Opr.name e4) then
      (k0 false)
    else
      nx i (wr (k + 1)) h0 h02 h03
    )
  else
    k1 i h0 h02 h03
noncomputable def l9 {R : Type} (G : Gs) (n m : Nat) (i : Int) (k : Int) (h0 : List ByteArray) (h02 : List Sb) (h03 : List Opr) (k0 : Bool → Option R) (k1 : Int → List ByteArray → List Sb → List Opr → Option R) : Option R := iter (fun (v : Int × Int × List ByteArray × List Sb × List Opr) nx => b9 G n v.1 v.2.1 v.2.2.1 v.2.2.2.1 v.2.2.2.2 (fun y0 y1 y2 y3 y4 => nx (y0, y1, y2, y3, y4)) k0 k1) m (i, k, h0, h02, h03)
noncomputable def b4 {R : Type} (G : Gs) (n : Nat) (i : Int) (h0 : List ByteArray) (h02 : List Sb) (h03 : List Opr) (nx : Int → List ByteArray → List Sb → List Opr → Option R) (k0 : Bool → Option R) (k1 : List ByteArray → List Sb → List Opr → Option R) : Option R :=
  bif decide (i < (List.length h03 : Int)) then
    (
    Option.bind (ix h03 i) fun e2 =>
    Option.bind (G.s_IsName (Opr.name e2)) fun r2 =>
    bif !r2 then
      (k0 false)
    else
      Option.bind (ix h03 i) fun e4 =>
      Option.bind (G.s_l4Decls (Sg.mk (So.mk h0 h02) h03) e4) fun r4 =>
      bif !r4 then
        (k0 false)
      else
        l9 G n n i 0 h0 h02 h03
          (fun t2 => k0 t2)
          (fun i2 h04 h022 h032 => nx (wr (i2 + 1)) h04 h022 h032)
    )
  else
    k1 h0 h02 h03
noncomputable def l4 {R : Type} (G : Gs) (n m : Nat) (i : Int) (h0 : List ByteArray) (h02 : List Sb) (h03 : List Opr) (k0 : Bool → Option R) (k1 : List ByteArray → List Sb → List Opr → Option R) : Option R := iter (fun (v : Int × List ByteArray × List Sb × List Opr) nx => b4 G n v.1 v.2.1 v.2.2.1 v.2.2.2 (fun y0 y1 y2 y3 => nx (y0, y1, y2, y3)) k0 k1) m (i, h0, h02, h03)
noncomputable def b14 {R : Type} (G : Gs) (n : Nat) (i : Int) (h0 : List ByteArray) (h02 : List Sb) (h03 : List Opr) (nx : Int → List ByteArray → List Sb → List Opr → Option R) (k0 : Bool → Option R) (k1 : Option R) : Option R :=
  bif decide (i < (List.length h03 : Int)) then
    (
    Option.bind (G.s_l4Axioms (Sg.mk (So.mk h0 h02) h03) i) fun r =>
    bif !r then
      (k0 false)
    else
      nx (wr (i + 1)) h0 h02 h03
    )
  else
    k1
noncomputable def l14 {R : Type} (G : Gs) (n m : Nat) (i : Int) (h0 : List ByteArray) (h02 : List Sb) (h03 : List Opr) (k0 : Bool → Option R) (k1 : Option R) : Option R := iter (fun (v : Int × List ByteArray × List Sb × List Opr) nx => b14 G n v.1 v.2.1 v.2.2.1 v.2.2.2 (fun y0 y1 y2 y3 => nx (y0, y1, y2, y3)) k0 k1) m (i, h0, h02, h03)
noncomputable def main {R : Type} (G : Gs) (n : Nat) (s : Sg) (K : Bool → Option R) : Option R :=
  Option.bind (G.s_IsSorts (Sg.sorts s)) fun r =>
  bif !r then
    (K false)
  else
    bif decide (14 < (List.length (Sg.ops s) : Int)) then
      (K false)
    else
      l4 G n n 0 (So.names (Sg.sorts s)) (So.subs (Sg.sorts s)) (Sg.ops s)
        (fun t2 => K t2)
        (fun h0 h02 h03 =>
          l14 G n n 0 h0 h02 h03
            (fun t22 => K t22)
            ( K true)
        )
noncomputable def dl9 (G : Gs) (n m : Nat) (R : Type) (st : St) (K : Kt R) : Option R := match st with
  | ⟨[(1, .one (.p 0 0)), (3, .one (.i i)), (4, .one (.i k))], [.box [.l .s h0, .l (.n 5) h02, .l (.n 8) h03]]⟩ => l9 G n m i k h0 h02 h03 (fun t2 => K .ret ⟨[(2, .one (.b t2))], []⟩) (fun i h0 h02 h03 => K (.exit 2) ⟨[(1, .one (.p 0 0)), (3, .one (.i i))], [.box [.l .s h0, .l (.n 5) h02, .l (.n 8) h03]]⟩)
  | _ => none
noncomputable def dl4 (G : Gs) (n m : Nat) (R : Type) (st : St) (K : Kt R) : Option R := match st with
  | ⟨[(1, .one (.p 0 0)), (3, .one (.i i))], [.box [.l .s h0, .l (.n 5) h02, .l (.n 8) h03]]⟩ => l4 G n m i h0 h02 h03 (fun t2 => K .ret ⟨[(2, .one (.b t2))], []⟩) (fun h0 h02 h03 => K (.exit 0) ⟨[(1, .one (.p 0 0))], [.box [.l .s h0, .l (.n 5) h02, .l (.n 8) h03]]⟩)
  | _ => none
noncomputable def dl14 (G : Gs) (n m : Nat) (R : Type) (st : St) (K : Kt R) : Option R := match st with
  | ⟨[(1, .one (.p 0 0)), (5, .one (.i i))], [.box [.l .s h0, .l (.n 5) h02, .l (.n 8) h03]]⟩ => l14 G n m i h0 h02 h03 (fun t2 => K .ret ⟨[(2, .one (.b t2))], []⟩) (K (.exit 4) ⟨[], []⟩)
  | _ => none
noncomputable def pc (G : Gs) (n : Nat) : Pcs := ⟨fun R id st K => bif Nat.beq id 9 then dl9 G n n R st K else bif Nat.beq id 4 then dl4 G n n R st K else bif Nat.beq id 14 then dl14 G n n R st K else none, fun _ _ _ _ => none, fun _ _ _ _ => none⟩
noncomputable def an : Ann := ⟨70, 0, [(9, [1, 3, 4]), (4, [1, 3]), (14, [1, 5])], [], [2], [(6, ⟨[([0, 1, 2, 3, 4, 5, 6, 7, 8, 9, 10, 11, 12, 13, 14, 15, 16, 17], [], [])], [], [], [0], []⟩), (11, ⟨[([0, 1, 2, 3, 4, 5, 6, 7, 8, 9, 10, 11, 12], [], [])], [], [], [0], []⟩)]⟩
theorem s9 (G : Gs) (n m : Nat) (R : Type) (i : Int) (k : Int) (h0 : List ByteArray) (h02 : List Sb) (h03 : List Opr) (K : Kt R) : den tb (orcOf (ents G)) (pc G n) an (nthC [1, 1, 0, 1, 0, 0, 1, 0, 0, 1, 1, 0, 0] (bodyOf Try.f13)) ⟨[(1, .one (.p 0 0)), (3, .one (.i i)), (4, .one (.i k))], [.box [.l .s h0, .l (.n 5) h02, .l (.n 8) h03]]⟩ (roundK an.refs [1, 3, 4] ⟨[1, 3], [2], [(0, [1]), (1, [1, 3]), (2, [1, 3])]⟩ (fun st => dl9 G n m R st K) K) = dl9 G n (m + 1) R ⟨[(1, .one (.p 0 0)), (3, .one (.i i)), (4, .one (.i k))], [.box [.l .s h0, .l (.n 5) h02, .l (.n 8) h03]]⟩ K := by kernel_rfl
theorem pl9 {G : Gs} (hG : AllE Try.prog (ents G)) (n : Nat) : ∀ m, PieceOK Try.prog an (.loop (nthC [1, 1, 0, 1, 0, 0, 1, 0, 0, 1, 1, 0, 0] (bodyOf Try.f13))) (dl9 G n m) := by
  refine loop_piece mixed tb_ok (orc_ok hG) (pc := pc G n) (lv := [1, 3, 4]) (o := ⟨[1, 3], [2], [(0, [1]), (1, [1, 3]), (2, [1, 3])]⟩) (by
    have h : pieces an (nthC [1, 1, 0, 1, 0, 0, 1, 0, 0, 1, 1, 0, 0] (bodyOf Try.f13)) = [] := by kernel_rfl
    rw [h]
    exact trivial) (fun R st K => ?_) (fun m R st K r h => ?_)
  · unfold dl9; split <;> rfl
  · have e := h
    unfold dl9 at e
    split at e
    · rename_i x0 x1 x2 x3 x4; exact (s9 G n m R x0 x1 x2 x3 x4 K).trans h
    · cases e
theorem s4 (G : Gs) (n m : Nat) (R : Type) (i : Int) (h0 : List ByteArray) (h02 : List Sb) (h03 : List Opr) (K : Kt R) : den tb (orcOf (ents G)) (pc G n) an (nthC [1, 1, 0, 1, 0, 0] (bodyOf Try.f13)) ⟨[(1, .one (.p 0 0)), (3, .one (.i i))], [.box [.l .s h0, .l (.n 5) h02, .l (.n 8) h03]]⟩ (roundK an.refs [1, 3] ⟨[1], [2], [(0, [1])]⟩ (fun st => dl4 G n m R st K) K) = dl4 G n (m + 1) R ⟨[(1, .one (.p 0 0)), (3, .one (.i i))], [.box [.l .s h0, .l (.n 5) h02, .l (.n 8) h03]]⟩ K := by kernel_rfl
theorem pl4 {G : Gs} (hG : AllE Try.prog (ents G)) (n : Nat) : ∀ m, PieceOK Try.prog an (.loop (nthC [1, 1, 0, 1, 0, 0] (bodyOf Try.f13))) (dl4 G n m) := by
  refine loop_piece mixed tb_ok (orc_ok hG) (pc := pc G n) (lv := [1, 3]) (o := ⟨[1], [2], [(0, [1])]⟩) (by
    have h : pieces an (nthC [1, 1, 0, 1, 0, 0] (bodyOf Try.f13)) = [(1, 9, .loop (nthC [1, 1, 0, 1, 0, 0, 1, 0, 0, 1, 1, 0, 0] (bodyOf Try.f13)))] := by kernel_rfl
    rw [h]
    exact ⟨pl9 hG n n, trivial⟩) (fun R st K => ?_) (fun m R st K r h => ?_)
  · unfold dl4; split <;> rfl
  · have e := h
    unfold dl4 at e
    split at e
    · rename_i x0 x1 x2 x3; exact (s4 G n m R x0 x1 x2 x3 K).trans h
    · cases e
theorem s14 (G : Gs) (n m : Nat) (R : Type) (i : Int) (h0 : List ByteArray) (h02 : List Sb) (h03 : List Opr) (K : Kt R) : den tb (orcOf (ents G)) (pc G n) an (nthC [1, 1, 1, 0, 1, 0, 0] (bodyOf Try.f13)) ⟨[(1, .one (.p 0 0)), (5, .one (.i i))], [.box [.l .s h0, .l (.n 5) h02, .l (.n 8) h03]]⟩ (roundK an.refs [1, 5] ⟨[], [2], [(4, [])]⟩ (fun st => dl14 G n m R st K) K) = dl14 G n (m + 1) R ⟨[(1, .one (.p 0 0)), (5, .one (.i i))], [.box [.l .s h0, .l (.n 5) h02, .l (.n 8) h03]]⟩ K := by kernel_rfl
theorem pl14 {G : Gs} (hG : AllE Try.prog (ents G)) (n : Nat) : ∀ m, PieceOK Try.prog an (.loop (nthC [1, 1, 1, 0, 1, 0, 0] (bodyOf Try.f13))) (dl14 G n m) := by
  refine loop_piece mixed tb_ok (orc_ok hG) (pc := pc G n) (lv := [1, 5]) (o := ⟨[], [2], [(4, [])]⟩) (by
    have h : pieces an (nthC [1, 1, 1, 0, 1, 0, 0] (bodyOf Try.f13)) = [] := by kernel_rfl
    rw [h]
    exact trivial) (fun R st K => ?_) (fun m R st K r h => ?_)
  · unfold dl14; split <;> rfl
  · have e := h
    unfold dl14 at e
    split at e
    · rename_i x0 x1 x2 x3; exact (s14 G n m R x0 x1 x2 x3 K).trans h
    · cases e
theorem allp {G : Gs} (hG : AllE Try.prog (ents G)) (n : Nat) : AllP Try.prog an (pc G n) (pieces an (bodyOf Try.f13)) := by
    have h : pieces an (bodyOf Try.f13) = [(1, 4, .loop (nthC [1, 1, 0, 1, 0, 0] (bodyOf Try.f13))), (1, 14, .loop (nthC [1, 1, 1, 0, 1, 0, 0] (bodyOf Try.f13)))] := by kernel_rfl
    rw [h]
    exact ⟨pl4 hG n n, ⟨pl14 hG n n, trivial⟩⟩
/-- What the function computes. -/
noncomputable def Does (G : Gs) (s : Sg) (r : Bool) : Prop := ∃ n, main (R := AT × List Ob) G n s (fun r0 => some (.one (.b r0), [])) = some (.one (.b r), [])
theorem eq (G : Gs) (n : Nat) (s : Sg) : den tb (orcOf (ents G)) (pc G n) an (bodyOf Try.f13) ⟨argsD 0 [.agg [.l .s (So.names (Sg.sorts s)), .l (.n 5) (So.subs (Sg.sorts s)), .l (.n 8) (Sg.ops s)]], []⟩ (atEnd (finF tb an [.tmp 2])) = main (R := AT × List Ob) G n s (fun r0 => some (.one (.b r0), [])) := by kernel_rfl
theorem ok {G : Gs} (hG : AllE Try.prog (ents G)) {g : Sg → Option (Bool)} (hg : ∀ s r, g s = some r → Does G s r) : EntOK Try.prog (ent g) := fun R xs H K r hc => by
  simp only [ent] at hc
  split at hc
  · rename_i a a2 a3
    obtain ⟨r, q1, q2⟩ := bind_some hc
    obtain ⟨n, q3⟩ := hg (Sg.mk (So.mk a a2) a3) _ q1
    exact ⟨_, _, q2, fn_of_den (pc := pc G n) (an := an) (xs := [.agg [.l .s a, .l (.n 5) a2, .l (.n 8) a3]]) (H := []) (fin := finF tb an [.tmp 2]) mixed tb_ok (orc_ok hG) (fn := Try.f13) (c := bodyOf Try.f13) Try.func13 (by kernel_rfl) (by kernel_rfl) (by kernel_rfl) (by kernel_rfl) (by kernel_rfl) (rs := [.tmp 2]) (by kernel_rfl) (.inl rfl) (allp hG n) ((eq G n (Sg.mk (So.mk a a2) a3)).trans q3)⟩
  · cases hc
end s_IsSignature
namespace s_IsConstructors
structure Gs where
  s_IsSignature : Sg → Option (Bool)
  s_l1In : Int → Int → Int → Option (Bool)
noncomputable def ents (G : Gs) : List Ent := [s_IsSignature.ent G.s_IsSignature, s_l1In.ent G.s_l1In]
noncomputable def c8 {R : Type} (G : Gs) (n : Nat) (ctors : List Int) (i : Int) (h0 : List ByteArray) (h02 : List Sb) (h03 : List Opr) (k0 : Bool → Option R) (k1 : List Int → Int → List ByteArray → List Sb → List Opr → Option R) : Option R :=
  Option.bind (ix ctors i) fun e2 =>
  Option.bind (ix h03 e2) fun e4 =>
  bif (Opr.assoc e4) then
    (k0 false)
  else
    bif (Opr.comm e4) then
      (k0 false)
    else
      bif decide (0 < (Opr.unit e4)) then
        (k0 false)
      else
        bif !decide ((List.length (Opr.decls e4) : Int) = 1) then
          (k0 false)
        else
          k1 ctors i h0 h02 h03
noncomputable def b4 {R : Type} (G : Gs) (n : Nat) (ctors : List Int) (i : Int) (h0 : List ByteArray) (h02 : List Sb) (h03 : List Opr) (nx : List Int → Int → List ByteArray → List Sb → List Opr → Option R) (k0 : Bool → Option R) (k1 : Option R) : Option R :=
  bif decide (i < (List.length ctors : Int)) then
    (
    Option.bind (ix ctors i) fun e2 =>
    Option.bind (G.s_l1In e2 0 (wr ((List.length h03 : Int) - 1))) fun r2 =>
    bif !r2 then
      (k0 false)
    else
      bif decide (0 < i) then
        (
        Option.bind (ix ctors (wr (i - 1))) fun e4 =>
        Option.bind (ix ctors i) fun e6 =>
        bif decide (e6 ≤ e4) then
          (k0 false)
        else
          c8 G n ctors i h0 h02 h03
            (fun t4 => k0 t4)
            (fun ctors2 i2 h04 h022 h032 => nx ctors2 (wr (i2 + 1)) h04 h022 h032)
        )
      else
        c8 G n ctors i h0 h02 h03
          (fun t42 => k0 t42)
          (fun ctors3 i3 h05 h023 h033 => nx ctors3 (wr (i3 + 1)) h05 h023 h033)
    )
  else
    k1
noncomputable def l4 {R : Type} (G : Gs) (n m : Nat) (ctors : List Int) (i : Int) (h0 : List ByteArray) (h02 : List Sb) (h03 : List Opr) (k0 : Bool → Option R) (k1 : Option R) : Option R := iter (fun (v : List Int × Int × List ByteArray × List Sb × List Opr) nx => b4 G n v.1 v.2.1 v.2.2.1 v.2.2.2.1 v.2.2.2.2 (fun y0 y1 y2 y3 y4 => nx (y0, y1, y2, y3, y4)) k0 k1) m (ctors, i, h0, h02, h03)
noncomputable def main {R : Type} (G : Gs) (n : Nat) (s : Sg) (ctors : List Int) (K : Bool → Option R) : Option R :=
  Option.bind (G.s_IsSignature s) fun r =>
  bif !r then
    (K false)
  else
    l4 G n n ctors 0 (So.names (Sg.sorts s)) (So.subs (Sg.sorts s)) (Sg.ops s)
      (fun t4 => K t4)
      ( K true)
noncomputable def dc8 (G : Gs) (n : Nat) (R : Type) (st : St) (K : Kt R) : Option R := match st with
  | ⟨[(1, .one (.l .i ctors)), (2, .one (.p 0 0)), (5, .one (.i i))], [.box [.l .s h0, .l (.n 5) h02, .l (.n 8) h03]]⟩ => c8 G n ctors i h0 h02 h03 (fun t4 => K .ret ⟨[(4, .one (.b t4))], []⟩) (fun ctors i h0 h02 h03 => K .normal ⟨[(1, .one (.l .i ctors)), (2, .one (.p 0 0)), (5, .one (.i i))], [.box [.l .s h0, .l (.n 5) h02, .l (.n 8) h03]]⟩)
  | _ => none
noncomputable def dl4 (G : Gs) (n m : Nat) (R : Type) (st : St) (K : Kt R) : Option R := match st with
  | ⟨[(1, .one (.l .i ctors)), (2, .one (.p 0 0)), (5, .one (.i i))], [.box [.l .s h0, .l (.n 5) h02, .l (.n 8) h03]]⟩ => l4 G n m ctors i h0 h02 h03 (fun t4 => K .ret ⟨[(4, .one (.b t4))], []⟩) (K (.exit 0) ⟨[], []⟩)
  | _ => none
noncomputable def pc (G : Gs) (n : Nat) : Pcs := ⟨fun R id st K => bif Nat.beq id 4 then dl4 G n n R st K else none, fun R id st K => bif Nat.beq id 8 then dc8 G n R st K else none, fun _ _ _ _ => none⟩
noncomputable def an : Ann := ⟨67, 0, [(4, [1, 2, 5])], [(8, [1, 2, 5])], [4], [(6, ⟨[([0, 1, 2, 3, 4, 5, 6, 7, 8, 9, 10, 11, 12, 13, 14, 15, 16, 17, 18, 19, 20, 21, 22, 23, 24, 25], [], [])], [], [], [0], []⟩), (8, ⟨[([8, 0, 1, 2, 3, 4, 5, 6, 7, 9], [8, 9], [])], [8, 9], [], [0], []⟩)]⟩
theorem s8 (G : Gs) (n : Nat) (R : Type) (ctors : List Int) (i : Int) (h0 : List ByteArray) (h02 : List Sb) (h03 : List Opr) (K : Kt R) : den tb (orcOf (ents G)) (pc G n) an (nthC [1, 1, 0, 1, 0, 0, 1, 0, 0, 1] (bodyOf Try.f5)) ⟨[(1, .one (.l .i ctors)), (2, .one (.p 0 0)), (5, .one (.i i))], [.box [.l .s h0, .l (.n 5) h02, .l (.n 8) h03]]⟩ (outK an.refs ⟨[1, 2, 5], [4], [(0, []), (1, [1, 2, 5])]⟩ K) = dc8 G n R ⟨[(1, .one (.l .i ctors)), (2, .one (.p 0 0)), (5, .one (.i i))], [.box [.l .s h0, .l (.n 5) h02, .l (.n 8) h03]]⟩ K := by kernel_rfl
theorem pc8 {G : Gs} (hG : AllE Try.prog (ents G)) {n : Nat} : PieceOK Try.prog an (nthC [1, 1, 0, 1, 0, 0, 1, 0, 0, 1] (bodyOf Try.f5)) (dc8 G n) := by
  refine cut_piece mixed tb_ok (orc_ok hG) (pc := pc G n) (o := ⟨[1, 2, 5], [4], [(0, []), (1, [1, 2, 5])]⟩) (by
    have h : pieces an (nthC [1, 1, 0, 1, 0, 0, 1, 0, 0, 1] (bodyOf Try.f5)) = [] := by kernel_rfl
    rw [h]
    exact trivial) (fun R st K r h => ?_)
  have e := h
  unfold dc8 at e
  split at e
  · rename_i x0 x1 x2 x3 x4; exact (s8 G n R x0 x1 x2 x3 x4 K).trans h
  · cases e
theorem s4 (G : Gs) (n m : Nat) (R : Type) (ctors : List Int) (i : Int) (h0 : List ByteArray) (h02 : List Sb) (h03 : List Opr) (K : Kt R) : den tb (orcOf (ents G)) (pc G n) an (nthC [1, 1, 0, 1, 0, 0] (bodyOf Try.f5)) ⟨[(1, .one (.l .i ctors)), (2, .one (.p 0 0)), (5, .one (.i i))], [.box [.l .s h0, .l (.n 5) h02, .l (.n 8) h03]]⟩ (roundK an.refs [1, 2, 5] ⟨[], [4], [(0, [])]⟩ (fun st => dl4 G n m R st K) K) = dl4 G n (m + 1) R ⟨[(1, .one (.l .i ctors)), (2, .one (.p 0 0)), (5, .one (.i i))], [.box [.l .s h0, .l (.n 5) h02, .l (.n 8) h03]]⟩ K := by kernel_rfl
theorem pl4 {G : Gs} (hG : AllE Try.prog (ents G)) (n : Nat) : ∀ m, PieceOK Try.prog an (.loop (nthC [1, 1, 0, 1, 0, 0] (bodyOf Try.f5))) (dl4 G n m) := by
  refine loop_piece mixed tb_ok (orc_ok hG) (pc := pc G n) (lv := [1, 2, 5]) (o := ⟨[], [4], [(0, [])]⟩) (by
    have h : pieces an (nthC [1, 1, 0, 1, 0, 0] (bodyOf Try.f5)) = [(0, 8, nthC [1, 1, 0, 1, 0, 0, 1, 0, 0, 1] (bodyOf Try.f5))] := by kernel_rfl
    rw [h]
    exact ⟨pc8 hG, trivial⟩) (fun R st K => ?_) (fun m R st K r h => ?_)
  · unfold dl4; split <;> rfl
  · have e := h
    unfold dl4 at e
    split at e
    · rename_i x0 x1 x2 x3 x4; exact (s4 G n m R x0 x1 x2 x3 x4 K).trans h
    · cases e
theorem allp {G : Gs} (hG : AllE Try.prog (ents G)) (n : Nat) : AllP Try.prog an (pc G n) (pieces an (bodyOf Try.f5)) := by
    have h : pieces an (bodyOf Try.f5) = [(1, 4, .loop (nthC [1, 1, 0, 1, 0, 0] (bodyOf Try.f5)))] := by kernel_rfl
    rw [h]
    exact ⟨pl4 hG n n, trivial⟩
/-- What the function computes. -/
noncomputable def Does (G : Gs) (s : Sg) (ctors : List Int) (r : Bool) : Prop := ∃ n, main (R := AT × List Ob) G n s ctors (fun r0 => some (.one (.b r0), [])) = some (.one (.b r), [])
theorem eq (G : Gs) (n : Nat) (s : Sg) (ctors : List Int) : den tb (orcOf (ents G)) (pc G n) an (bodyOf Try.f5) ⟨argsD 0 [.agg [.l .s (So.names (Sg.sorts s)), .l (.n 5) (So.subs (Sg.sorts s)), .l (.n 8) (Sg.ops s)], .one (.l .i ctors)], []⟩ (atEnd (finF tb an [.tmp 4])) = main (R := AT × List Ob) G n s ctors (fun r0 => some (.one (.b r0), [])) := by kernel_rfl
theorem ok {G : Gs} (hG : AllE Try.prog (ents G)) {g : Sg → List Int → Option (Bool)} (hg : ∀ s ctors r, g s ctors = some r → Does G s ctors r) : EntOK Try.prog (ent g) := fun R xs H K r hc => by
  simp only [ent] at hc
  split at hc
  · rename_i a a2 a3 a4
    obtain ⟨r, q1, q2⟩ := bind_some hc
    obtain ⟨n, q3⟩ := hg (Sg.mk (So.mk a a2) a3) a4 _ q1
    exact ⟨_, _, q2, fn_of_den (pc := pc G n) (an := an) (xs := [.agg [.l .s a, .l (.n 5) a2, .l (.n 8) a3], .one (.l .i a4)]) (H := []) (fin := finF tb an [.tmp 4]) mixed tb_ok (orc_ok hG) (fn := Try.f5) (c := bodyOf Try.f5) Try.func5 (by kernel_rfl) (by kernel_rfl) (by kernel_rfl) (by kernel_rfl) (by kernel_rfl) (rs := [.tmp 4]) (by kernel_rfl) (.inl rfl) (allp hG n) ((eq G n (Sg.mk (So.mk a a2) a3) a4).trans q3)⟩
  · cases hc
end s_IsConstructors
end Go.Proofs.Ytjafncnjefnloaa.Den

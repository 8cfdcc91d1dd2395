/-
  Functions of the program, by den. Printed by wip/den/dp.py.
-/
import Derived.Test.YtjafncnjefnloaaZRowCons12
namespace Go.Proofs.Ytjafncnjefnloaa.Den
open Go.RowKit
set_option maxRecDepth 100000
set_option linter.unusedVariables false
namespace i_isSet
structure Gs where
  none_ : Unit
noncomputable def ents (_ : Gs) : List Ent := []
noncomputable def main {R : Type} (G : Gs) (n : Nat) (set1 : Int) (K : Bool → Option R) : Option R :=
  bif decide (0 ≤ set1) then
    (K (decide (set1 ≤ 65535)))
  else
    K false
noncomputable def pc (_ : Gs) (_ : Nat) : Pcs := ⟨fun _ _ _ _ => none, fun _ _ _ _ => none, fun _ _ _ _ => none⟩
noncomputable def an : Ann := ⟨9, 0, [], [], [2], []⟩
theorem allp {G : Gs} (hG : AllE Try.prog (ents G)) (n : Nat) : AllP Try.prog an (pc G n) (pieces an (bodyOf Try.f57)) := by
    have h : pieces an (bodyOf Try.f57) = [] := by kernel_rfl
    rw [h]
    exact trivial
/-- What the function computes. -/
noncomputable def Does (G : Gs) (set1 : Int) (r : Bool) : Prop := ∃ n, main (R := AT × List Ob) G n set1 (fun r0 => some (.one (.b r0), [])) = some (.one (.b r), [])
theorem eq (G : Gs) (n : Nat) (set1 : Int) : den tb (orcOf (ents G)) (pc G n) an (bodyOf Try.f57) ⟨argsD 0 [.one (.i set1)], []⟩ (atEnd (finF tb an [.tmp 2])) = main (R := AT × List Ob) G n set1 (fun r0 => some (.one (.b r0), [])) := by kernel_rfl
theorem ok {G : Gs} (hG : AllE Try.prog (ents G)) {g : Int → Option (Bool)} (hg : ∀ set1 r, g set1 = some r → Does G set1 r) : EntOK Try.prog (ent g) := fun R xs H K r hc => by
  simp only [ent] at hc
  split at hc
  · rename_i a
    obtain ⟨r, q1, q2⟩ := bind_some hc
    obtain ⟨n, q3⟩ := hg a _ q1
    exact ⟨_, _, q2, fn_of_den (pc := pc G n) (an := an) (xs := [.one (.i a)]) (H := []) (fin := finF tb an [.tmp 2]) mixed tb_ok (orc_ok hG) (fn := Try.f57) (c := bodyOf Try.f57) Try.func57 (by kernel_rfl) (by kernel_rfl) (by kernel_rfl) (by kernel_rfl) (by kernel_rfl) (rs := [.tmp 2]) (by kernel_rfl) (.inl rfl) (allp hG n) ((eq G n a).trans q3)⟩
  · cases hc
end i_isSet
namespace i_ListOf
structure Gs where
  i_isSet : Int → Option (Bool)
noncomputable def ents (G : Gs) : List Ent := [i_isSet.ent G.i_isSet]
noncomputable def b3 {R : Type} (G : Gs) (n : Nat) (set1 : Int) (n1 : Int) (h0 : List Int) (nx : Int → Int → List Int → Option R) (k0 : List Int → Option R) : Option R :=
  bif decide (n1 < 16) then
    (
    Option.bind (G.i_isSet set1) fun r =>
    bif r then
      (
      Option.bind (bif decide (0 ≤ n1) then some (Abs.bitsI .shl .i64 1 n1) else none) fun q =>
      bif !decide ((Abs.bitsI .and .i64 set1 q) = 0) then
        (
        Option.bind (lim (h0 ++ [n1])) fun zs =>
        nx set1 (wr (n1 + 1)) zs
        )
      else
        nx set1 (wr (n1 + 1)) h0
      )
    else
      k0 h0
    )
  else
    k0 h0
noncomputable def l3 {R : Type} (G : Gs) (n m : Nat) (set1 : Int) (n1 : Int) (h0 : List Int) (k0 : List Int → Option R) : Option R := iter (fun (v : Int × Int × List Int) nx => b3 G n v.1 v.2.1 v.2.2 (fun y0 y1 y2 => nx (y0, y1, y2)) k0) m (set1, n1, h0)
noncomputable def main {R : Type} (G : Gs) (n : Nat) (set1 : Int) (K : List Int → Option R) : Option R :=
  l3 G n n set1 0 []
    (fun h0 => K h0)
noncomputable def dl3 (G : Gs) (n m : Nat) (R : Type) (st : St) (K : Kt R) : Option R := match st with
  | ⟨[(0, .one (.i set1)), (3, .one (.o 0)), (4, .one (.i n1))], [.row .i 0 h0]⟩ => l3 G n m set1 n1 h0 (fun h0 => K (.exit 0) ⟨[(3, .one (.o 0))], [.row .i 0 h0]⟩)
  | _ => none
noncomputable def pc (G : Gs) (n : Nat) : Pcs := ⟨fun R id st K => bif Nat.beq id 3 then dl3 G n n R st K else none, fun _ _ _ _ => none, fun _ _ _ _ => none⟩
noncomputable def an : Ann := ⟨24, 0, [(3, [0, 3, 4])], [], [2], []⟩
theorem s3 (G : Gs) (n m : Nat) (R : Type) (set1 : Int) (n1 : Int) (h0 : List Int) (K : Kt R) : den tb (orcOf (ents G)) (pc G n) an (nthC [1, 1, 0, 1, 0, 0] (bodyOf Try.f48)) ⟨[(0, .one (.i set1)), (3, .one (.o 0)), (4, .one (.i n1))], [.row .i 0 h0]⟩ (roundK an.refs [0, 3, 4] ⟨[3], [2], [(0, [3])]⟩ (fun st => dl3 G n m R st K) K) = dl3 G n (m + 1) R ⟨[(0, .one (.i set1)), (3, .one (.o 0)), (4, .one (.i n1))], [.row .i 0 h0]⟩ K := by kernel_rfl
theorem pl3 {G : Gs} (hG : AllE Try.prog (ents G)) (n : Nat) : ∀ m, PieceOK Try.prog an (.loop (nthC [1, 1, 0, 1, 0, 0] (bodyOf Try.f48))) (dl3 G n m) := by
  refine loop_piece mixed tb_ok (orc_ok hG) (pc := pc G n) (lv := [0, 3, 4]) (o := ⟨[3], [2], [(0, [3])]⟩) (by
    have h : pieces an (nthC [1, 1, 0, 1, 0, 0] (bodyOf Try.f48)) = [] := by kernel_rfl
    rw [h]
    exact trivial) (fun R st K => ?_) (fun m R st K r h => ?_)
  · unfold dl3; split <;> rfl
  · have e := h
    unfold dl3 at e
    split at e
    · rename_i x0 x1 x2; exact (s3 G n m R x0 x1 x2 K).trans h
    · cases e
theorem allp {G : Gs} (hG : AllE Try.prog (ents G)) (n : Nat) : AllP Try.prog an (pc G n) (pieces an (bodyOf Try.f48)) := by
    have h : pieces an (bodyOf Try.f48) = [(1, 3, .loop (nthC [1, 1, 0, 1, 0, 0] (bodyOf Try.f48)))] := by kernel_rfl
    rw [h]
    exact ⟨pl3 hG n n, trivial⟩
/-- What the function computes. -/
noncomputable def Does (G : Gs) (set1 : Int) (r : List Int) : Prop := ∃ n, main (R := AT × List Ob) G n set1 (fun r0 => some (.one (.l .i r0), [])) = some (.one (.l .i r), [])
theorem eq (G : Gs) (n : Nat) (set1 : Int) : den tb (orcOf (ents G)) (pc G n) an (bodyOf Try.f48) ⟨argsD 0 [.one (.i set1)], []⟩ (atEnd (finF tb an [.tmp 2])) = main (R := AT × List Ob) G n set1 (fun r0 => some (.one (.l .i r0), [])) := by kernel_rfl
theorem ok {G : Gs} (hG : AllE Try.prog (ents G)) {g : Int → Option (List Int)} (hg : ∀ set1 r, g set1 = some r → Does G set1 r) : EntOK Try.prog (ent g) := fun R xs H K r hc => by
  simp only [ent] at hc
  split at hc
  · rename_i a
    obtain ⟨r, q1, q2⟩ := bind_some hc
    obtain ⟨n, q3⟩ := hg a _ q1
    exact ⟨_, _, q2, fn_of_den (pc := pc G n) (an := an) (xs := [.one (.i a)]) (H := []) (fin := finF tb an [.tmp 2]) mixed tb_ok (orc_ok hG) (fn := Try.f48) (c := bodyOf Try.f48) Try.func48 (by kernel_rfl) (by kernel_rfl) (by kernel_rfl) (by kernel_rfl) (by kernel_rfl) (rs := [.tmp 2]) (by kernel_rfl) (.inl rfl) (allp hG n) ((eq G n a).trans q3)⟩
  · cases hc
end i_ListOf
namespace i_nameByte
structure Gs where
  none_ : Unit
noncomputable def ents (_ : Gs) : List Ent := []
noncomputable def main {R : Type} (G : Gs) (n : Nat) (c : Int) (K : Bool → Option R) : Option R :=
  bif decide (48 ≤ c) then
    (
    bif decide (c ≤ 57) then
      (K true)
    else
      bif decide (65 ≤ c) then
        (
        bif decide (c ≤ 90) then
          (K true)
        else
          bif decide (97 ≤ c) then
            (K (decide (c ≤ 122)))
          else
            K false
        )
      else
        bif decide (97 ≤ c) then
          (K (decide (c ≤ 122)))
        else
          K false
    )
  else
    bif decide (65 ≤ c) then
      (
      bif decide (c ≤ 90) then
        (K true)
      else
        bif decide (97 ≤ c) then
          (K (decide (c ≤ 122)))
        else
          K false
      )
    else
      bif decide (97 ≤ c) then
        (K (decide (c ≤ 122)))
      else
        K false
noncomputable def pc (_ : Gs) (_ : Nat) : Pcs := ⟨fun _ _ _ _ => none, fun _ _ _ _ => none, fun _ _ _ _ => none⟩
noncomputable def an : Ann := ⟨25, 0, [], [], [2], []⟩
theorem allp {G : Gs} (hG : AllE Try.prog (ents G)) (n : Nat) : AllP Try.prog an (pc G n) (pieces an (bodyOf Try.f49)) := by
    have h : pieces an (bodyOf Try.f49) = [] := by kernel_rfl
    rw [h]
    exact trivial
/-- What the function computes. -/
noncomputable def Does (G : Gs) (c : Int) (r : Bool) : Prop := ∃ n, main (R := AT × List Ob) G n c (fun r0 => some (.one (.b r0), [])) = some (.one (.b r), [])
theorem eq (G : Gs) (n : Nat) (c : Int) : den tb (orcOf (ents G)) (pc G n) an (bodyOf Try.f49) ⟨argsD 0 [.one (.k .u8 c)], []⟩ (atEnd (finF tb an [.tmp 2])) = main (R := AT × List Ob) G n c (fun r0 => some (.one (.b r0), [])) := by kernel_rfl
theorem ok {G : Gs} (hG : AllE Try.prog (ents G)) {g : Int → Option (Bool)} (hg : ∀ c r, g c = some r → Does G c r) : EntOK Try.prog (ent g) := fun R xs H K r hc => by
  simp only [ent] at hc
  split at hc
  · rename_i a
    obtain ⟨r, q1, q2⟩ := bind_some hc
    obtain ⟨n, q3⟩ := hg a _ q1
    exact ⟨_, _, q2, fn_of_den (pc := pc G n) (an := an) (xs := [.one (.k .u8 a)]) (H := []) (fin := finF tb an [.tmp 2]) mixed tb_ok (orc_ok hG) (fn := Try.f49) (c := bodyOf Try.f49) Try.func49 (by kernel_rfl) (by kernel_rfl) (by kernel_rfl) (by kernel_rfl) (by kernel_rfl) (rs := [.tmp 2]) (by kernel_rfl) (.inl rfl) (allp hG n) ((eq G n a).trans q3)⟩
  · cases hc
end i_nameByte
namespace i_IsName
structure Gs where
  i_nameByte : Int → Option (Bool)
noncomputable def ents (G : Gs) : List Ent := [i_nameByte.ent G.i_nameByte]
noncomputable def b4 {R : Type} (G : Gs) (n : Nat) (s : ByteArray) (i : Int) (nx : ByteArray → Int → Option R) (k0 : Bool → Option R) (k1 : Option R) : Option R :=
  bif decide (i < (ByteArray.size s : Int)) then
    (
    Option.bind (sIx s i) fun b =>
    Option.bind (G.i_nameByte b) fun r =>
    bif !r then
      (k0 false)
    else
      bif decide (i = 0) then
        (
        Option.bind (sIx s i) fun b2 =>
        bif decide (b2 ≤ 57) then
          (k0 false)
        else
          nx s (wr (i + 1))
        )
      else
        nx s (wr (i + 1))
    )
  else
    k1
noncomputable def l4 {R : Type} (G : Gs) (n m : Nat) (s : ByteArray) (i : Int) (k0 : Bool → Option R) (k1 : Option R) : Option R := iter (fun (v : ByteArray × Int) nx => b4 G n v.1 v.2 (fun y0 y1 => nx (y0, y1)) k0 k1) m (s, i)
noncomputable def main {R : Type} (G : Gs) (n : Nat) (s : ByteArray) (K : Bool → Option R) : Option R :=
  bif decide ((ByteArray.size s : Int) < 1) then
    (K false)
  else
    bif decide (12 < (ByteArray.size s : Int)) then
      (K false)
    else
      bif sEq s (ByteArray.mk #[105, 102]) then
        (K false)
      else
        bif sEq s (ByteArray.mk #[97, 110, 100]) then
          (K false)
        else
          l4 G n n s 0
            (fun t2 => K t2)
            ( K true)
noncomputable def dl4 (G : Gs) (n m : Nat) (R : Type) (st : St) (K : Kt R) : Option R := match st with
  | ⟨[(0, .one (.s s)), (3, .one (.i i))], []⟩ => l4 G n m s i (fun t2 => K .ret ⟨[(2, .one (.b t2))], []⟩) (K (.exit 0) ⟨[], []⟩)
  | _ => none
noncomputable def pc (G : Gs) (n : Nat) : Pcs := ⟨fun R id st K => bif Nat.beq id 4 then dl4 G n n R st K else none, fun _ _ _ _ => none, fun _ _ _ _ => none⟩
noncomputable def an : Ann := ⟨41, 0, [(4, [0, 3])], [], [2], []⟩
theorem s4 (G : Gs) (n m : Nat) (R : Type) (s : ByteArray) (i : Int) (K : Kt R) : den tb (orcOf (ents G)) (pc G n) an (nthC [1, 1, 0, 1, 0, 0] (bodyOf Try.f32)) ⟨[(0, .one (.s s)), (3, .one (.i i))], []⟩ (roundK an.refs [0, 3] ⟨[], [2], [(0, [])]⟩ (fun st => dl4 G n m R st K) K) = dl4 G n (m + 1) R ⟨[(0, .one (.s s)), (3, .one (.i i))], []⟩ K := by kernel_rfl
theorem pl4 {G : Gs} (hG : AllE Try.prog (ents G)) (n : Nat) : ∀ m, PieceOK Try.prog an (.loop (nthC [1, 1, 0, 1, 0, 0] (bodyOf Try.f32))) (dl4 G n m) := by
  refine loop_piece mixed tb_ok (orc_ok hG) (pc := pc G n) (lv := [0, 3]) (o := ⟨[], [2], [(0, [])]⟩) (by
    have h : pieces an (nthC [1, 1, 0, 1, 0, 0] (bodyOf Try.f32)) = [] := by kernel_rfl
    rw [h]
    exact trivial) (fun R st K => ?_) (fun m R st K r h => ?_)
  · unfold dl4; split <;> rfl
  · have e := h
    unfold dl4 at e
    split at e
    · rename_i x0 x1; exact (s4 G n m R x0 x1 K).trans h
    · cases e
theorem allp {G : Gs} (hG : AllE Try.prog (ents G)) (n : Nat) : AllP Try.prog an (pc G n) (pieces an (bodyOf Try.f32)) := by
    have h : pieces an (bodyOf Try.f32) = [(1, 4, .loop (nthC [1, 1, 0, 1, 0, 0] (bodyOf Try.f32)))] := by kernel_rfl
    rw [h]
    exact ⟨pl4 hG n n, trivial⟩
/-- What the function computes. -/
noncomputable def Does (G : Gs) (s : ByteArray) (r : Bool) : Prop := ∃ n, main (R := AT × List Ob) G n s (fun r0 => some (.one (.b r0), [])) = some (.one (.b r), [])
theorem eq (G : Gs) (n : Nat) (s : ByteArray) : den tb (orcOf (ents G)) (pc G n) an (bodyOf Try.f32) ⟨argsD 0 [.one (.s s)], []⟩ (atEnd (finF tb an [.tmp 2])) = main (R := AT × List Ob) G n s (fun r0 => some (.one (.b r0), [])) := by kernel_rfl
theorem ok {G : Gs} (hG : AllE Try.prog (ents G)) {g : ByteArray → Option (Bool)} (hg : ∀ s r, g s = some r → Does G s r) : EntOK Try.prog (ent g) := fun R xs H K r hc => by
  simp only [ent] at hc
  split at hc
  · rename_i a
    obtain ⟨r, q1, q2⟩ := bind_some hc
    obtain ⟨n, q3⟩ := hg a _ q1
    exact ⟨_, _, q2, fn_of_den (pc := pc G n) (an := an) (xs := [.one (.s a)]) (H := []) (fin := finF tb an [.tmp 2]) mixed tb_ok (orc_ok hG) (fn := Try.f32) (c := bodyOf Try.f32) Try.func32 (by kernel_rfl) (by kernel_rfl) (by kernel_rfl) (by kernel_rfl) (by kernel_rfl) (rs := [.tmp 2]) (by kernel_rfl) (.inl rfl) (allp hG n) ((eq G n a).trans q3)⟩
  · cases hc
end i_IsName
namespace i_sortsAbove
structure Gs where
  none_ : Unit
noncomputable def ents (_ : Gs) : List Ent := []
noncomputable def b3 {R : Type} (G : Gs) (n : Nat) (t12 : Int) (t13 : Int) (h0 : List ByteArray) (h02 : List Sb) (h1 : List Int) (nx : Int → Int → List ByteArray → List Sb → List Int → Option R) (k0 : List ByteArray → List Sb → List Int → Option R) : Option R :=
  bif decide (t13 < t12) then
    (
    Option.bind (bif decide (0 ≤ t13) then some (Abs.bitsI .shl .i64 1 t13) else none) fun q =>
    Option.bind (ix h1 t13) fun e =>
    nx t12 (wr (t13 + 1)) h0 h02 (List.set h1 (Int.toNat t13) q)
    )
  else
    k0 h0 h02 h1
noncomputable def l3 {R : Type} (G : Gs) (n m : Nat) (t12 : Int) (t13 : Int) (h0 : List ByteArray) (h02 : List Sb) (h1 : List Int) (k0 : List ByteArray → List Sb → List Int → Option R) : Option R := iter (fun (v : Int × Int × List ByteArray × List Sb × List Int) nx => b3 G n v.1 v.2.1 v.2.2.1 v.2.2.2.1 v.2.2.2.2 (fun y0 y1 y2 y3 y4 => nx (y0, y1, y2, y3, y4)) k0) m (t12, t13, h0, h02, h1)
noncomputable def b10 {R : Type} (G : Gs) (n : Nat) (t23 : Int) (t24 : Int) (t27 : List Sb) (t28 : Int) (t29 : Int) (h0 : List ByteArray) (h02 : List Sb) (h1 : List Int) (nx : Int → Int → List Sb → Int → Int → List ByteArray → List Sb → List Int → Option R) (k0 : Int → Int → List ByteArray → List Sb → List Int → Option R) : Option R :=
  bif decide (t29 < t28) then
    (
    Option.bind (ix t27 t29) fun e =>
    Option.bind (ix h1 (Sb.low e)) fun e9 =>
    Option.bind (ix h1 (Sb.high e)) fun e11 =>
    Option.bind (ix h1 (Sb.low e)) fun e13 =>
    nx t23 t24 t27 t28 (wr (t29 + 1)) h0 h02 (List.set h1 (Int.toNat (Sb.low e)) (Abs.bitsI .or .i64 e9 e11))
    )
  else
    k0 t23 t24 h0 h02 h1
noncomputable def l10 {R : Type} (G : Gs) (n m : Nat) (t23 : Int) (t24 : Int) (t27 : List Sb) (t28 : Int) (t29 : Int) (h0 : List ByteArray) (h02 : List Sb) (h1 : List Int) (k0 : Int → Int → List ByteArray → List Sb → List Int → Option R) : Option R := iter (fun (v : Int × Int × List Sb × Int × Int × List ByteArray × List Sb × List Int) nx => b10 G n v.1 v.2.1 v.2.2.1 v.2.2.2.1 v.2.2.2.2.1 v.2.2.2.2.2.1 v.2.2.2.2.2.2.1 v.2.2.2.2.2.2.2 (fun y0 y1 y2 y3 y4 y5 y6 y7 => nx (y0, y1, y2, y3, y4, y5, y6, y7)) k0) m (t23, t24, t27, t28, t29, h0, h02, h1)
noncomputable def b8 {R : Type} (G : Gs) (n : Nat) (t23 : Int) (t24 : Int) (h0 : List ByteArray) (h02 : List Sb) (h1 : List Int) (nx : Int → Int → List ByteArray → List Sb → List Int → Option R) (k0 : List Int → Option R) : Option R :=
  bif decide (t24 < t23) then
    (
    l10 G n n t23 t24 h02 (List.length h02 : Int) 0 h0 h02 h1
      (fun t232 t242 h03 h022 h12 => nx t232 (wr (t242 + 1)) h03 h022 h12)
    )
  else
    k0 h1
noncomputable def l8 {R : Type} (G : Gs) (n m : Nat) (t23 : Int) (t24 : Int) (h0 : List ByteArray) (h02 : List Sb) (h1 : List Int) (k0 : List Int → Option R) : Option R := iter (fun (v : Int × Int × List ByteArray × List Sb × List Int) nx => b8 G n v.1 v.2.1 v.2.2.1 v.2.2.2.1 v.2.2.2.2 (fun y0 y1 y2 y3 y4 => nx (y0, y1, y2, y3, y4)) k0) m (t23, t24, h0, h02, h1)
noncomputable def main {R : Type} (G : Gs) (n : Nat) (s : So) (K : List Int → Option R) : Option R :=
  Option.bind (mk (α := Int) 0 (List.length (So.names s) : Int)) fun xs =>
  l3 G n n (List.length xs : Int) 0 (So.names s) (So.subs s) xs
    (fun h0 h02 h1 =>
      l8 G n n (List.length h1 : Int) 0 h0 h02 h1
        (fun h03 => K h03)
    )
noncomputable def dl3 (G : Gs) (n m : Nat) (R : Type) (st : St) (K : Kt R) : Option R := match st with
  | ⟨[(1, .one (.p 0 0)), (3, .one (.o 1)), (12, .one (.i t12)), (13, .one (.i t13))], [.box [.l .s h0, .l (.n 5) h02], .row .i 0 h1]⟩ => l3 G n m t12 t13 h0 h02 h1 (fun h0 h02 h1 => K (.exit 0) ⟨[(1, .one (.p 0 0)), (3, .one (.o 1))], [.box [.l .s h0, .l (.n 5) h02], .row .i 0 h1]⟩)
  | _ => none
noncomputable def dl10 (G : Gs) (n m : Nat) (R : Type) (st : St) (K : Kt R) : Option R := match st with
  | ⟨[(1, .one (.p 0 0)), (3, .one (.o 1)), (23, .one (.i t23)), (24, .one (.i t24)), (27, .one (.l (.n 5) t27)), (28, .one (.i t28)), (29, .one (.i t29))], [.box [.l .s h0, .l (.n 5) h02], .row .i 0 h1]⟩ => l10 G n m t23 t24 t27 t28 t29 h0 h02 h1 (fun t23 t24 h0 h02 h1 => K (.exit 4) ⟨[(1, .one (.p 0 0)), (3, .one (.o 1)), (23, .one (.i t23)), (24, .one (.i t24))], [.box [.l .s h0, .l (.n 5) h02], .row .i 0 h1]⟩)
  | _ => none
noncomputable def dl8 (G : Gs) (n m : Nat) (R : Type) (st : St) (K : Kt R) : Option R := match st with
  | ⟨[(1, .one (.p 0 0)), (3, .one (.o 1)), (23, .one (.i t23)), (24, .one (.i t24))], [.box [.l .s h0, .l (.n 5) h02], .row .i 0 h1]⟩ => l8 G n m t23 t24 h0 h02 h1 (fun h0 => K (.exit 2) ⟨[(3, .one (.o 0))], [.row .i 0 h0]⟩)
  | _ => none
noncomputable def pc (G : Gs) (n : Nat) : Pcs := ⟨fun R id st K => bif Nat.beq id 3 then dl3 G n n R st K else bif Nat.beq id 10 then dl10 G n n R st K else bif Nat.beq id 8 then dl8 G n n R st K else none, fun _ _ _ _ => none, fun _ _ _ _ => none⟩
noncomputable def an : Ann := ⟨51, 0, [(3, [1, 3, 12, 13]), (10, [1, 3, 23, 24, 27, 28, 29]), (8, [1, 3, 23, 24])], [], [2], [(12, ⟨[([0, 1, 2, 3, 4, 5, 6, 7, 8, 9, 10, 11, 12, 13, 14, 15], [15], [6, 7, 11, 12, 14])], [15], [], [0, 2], []⟩)]⟩
theorem s3 (G : Gs) (n m : Nat) (R : Type) (t12 : Int) (t13 : Int) (h0 : List ByteArray) (h02 : List Sb) (h1 : List Int) (K : Kt R) : den tb (orcOf (ents G)) (pc G n) an (nthC [1, 1, 0, 1, 0, 0] (bodyOf Try.f47)) ⟨[(1, .one (.p 0 0)), (3, .one (.o 1)), (12, .one (.i t12)), (13, .one (.i t13))], [.box [.l .s h0, .l (.n 5) h02], .row .i 0 h1]⟩ (roundK an.refs [1, 3, 12, 13] ⟨[1, 3], [2], [(0, [1, 3])]⟩ (fun st => dl3 G n m R st K) K) = dl3 G n (m + 1) R ⟨[(1, .one (.p 0 0)), (3, .one (.o 1)), (12, .one (.i t12)), (13, .one (.i t13))], [.box [.l .s h0, .l (.n 5) h02], .row .i 0 h1]⟩ K := by kernel_rfl
theorem pl3 {G : Gs} (hG : AllE Try.prog (ents G)) (n : Nat) : ∀ m, PieceOK Try.prog an (.loop (nthC [1, 1, 0, 1, 0, 0] (bodyOf Try.f47))) (dl3 G n m) := by
  refine loop_piece mixed tb_ok (orc_ok hG) (pc := pc G n) (lv := [1, 3, 12, 13]) (o := ⟨[1, 3], [2], [(0, [1, 3])]⟩) (by
    have h : pieces an (nthC [1, 1, 0, 1, 0, 0] (bodyOf Try.f47)) = [] := by kernel_rfl
    rw [h]
    exact trivial) (fun R st K => ?_) (fun m R st K r h => ?_)
  · unfold dl3; split <;> rfl
  · have e := h
    unfold dl3 at e
    split at e
    · rename_i x0 x1 x2 x3 x4; exact (s3 G n m R x0 x1 x2 x3 x4 K).trans h
    · cases e
theorem s10 (G : Gs) (n m : Nat) (R : Type) (t23 : Int) (t24 : Int) (t27 : List Sb) (t28 : Int) (t29 : Int) (h0 : List ByteArray) (h02 : List Sb) (h1 : List Int) (K : Kt R) : den tb (orcOf (ents G)) (pc G n) an (nthC [1, 1, 1, 0, 1, 0, 0, 1, 1, 0, 0, 1, 0, 0] (bodyOf Try.f47)) ⟨[(1, .one (.p 0 0)), (3, .one (.o 1)), (23, .one (.i t23)), (24, .one (.i t24)), (27, .one (.l (.n 5) t27)), (28, .one (.i t28)), (29, .one (.i t29))], [.box [.l .s h0, .l (.n 5) h02], .row .i 0 h1]⟩ (roundK an.refs [1, 3, 23, 24, 27, 28, 29] ⟨[1, 3, 23, 24], [2], [(2, [3]), (3, [1, 3, 23, 24]), (4, [1, 3, 23, 24])]⟩ (fun st => dl10 G n m R st K) K) = dl10 G n (m + 1) R ⟨[(1, .one (.p 0 0)), (3, .one (.o 1)), (23, .one (.i t23)), (24, .one (.i t24)), (27, .one (.l (.n 5) t27)), (28, .one (.i t28)), (29, .one (.i t29))], [.box [.l .s h0, .l (.n 5) h02], .row .i 0 h1]⟩ K := by kernel_rfl
theorem pl10 {G : Gs} (hG : AllE Try.prog (ents G)) (n : Nat) : ∀ m, PieceOK Try.prog an (.loop (nthC [1, 1, 1, 0, 1, 0, 0, 1, 1, 0, 0, 1, 0, 0] (bodyOf Try.f47))) (dl10 G n m) := by
  refine loop_piece mixed tb_ok (orc_ok hG) (pc := pc G n) (lv := [1, 3, 23, 24, 27, 28, 29]) (o := ⟨[1, 3, 23, 24], [2], [(2, [3]), (3, [1, 3, 23, 24]), (4, [1, 3, 23, 24])]⟩) (by
    have h : pieces an (nthC [1, 1, 1, 0, 1, 0, 0, 1, 1, 0, 0, 1, 0, 0] (bodyOf Try.f47)) = [] := by kernel_rfl
    rw [h]
    exact trivial) (fun R st K => ?_) (fun m R st K r h => ?_)
  · unfold dl10; split <;> rfl
  · have e := h
    unfold dl10 at e
    split at e
    · rename_i x0 x1 x2 x3 x4 x5 x6 x7; exact (s10 G n m R x0 x1 x2 x3 x4 x5 x6 x7 K).trans h
    · cases e
theorem s8 (G : Gs) (n m : Nat) (R : Type) (t23 : Int) (t24 : Int) (h0 : List ByteArray) (h02 : List Sb) (h1 : List Int) (K : Kt R) : den tb (orcOf (ents G)) (pc G n) an (nthC [1, 1, 1, 0, 1, 0, 0] (bodyOf Try.f47)) ⟨[(1, .one (.p 0 0)), (3, .one (.o 1)), (23, .one (.i t23)), (24, .one (.i t24))], [.box [.l .s h0, .l (.n 5) h02], .row .i 0 h1]⟩ (roundK an.refs [1, 3, 23, 24] ⟨[3], [2], [(2, [3])]⟩ (fun st => dl8 G n m R st K) K) = dl8 G n (m + 1) R ⟨[(1, .one (.p 0 0)), (3, .one (.o 1)), (23, .one (.i t23)), (24, .one (.i t24))], [.box [.l .s h0, .l (.n 5) h02], .row .i 0 h1]⟩ K := by kernel_rfl
theorem pl8 {G : Gs} (hG : AllE Try.prog (ents G)) (n : Nat) : ∀ m, PieceOK Try.prog an (.loop (nthC [1, 1, 1, 0, 1, 0, 0] (bodyOf Try.f47))) (dl8 G n m) := by
  refine loop_piece mixed tb_ok (orc_ok hG) (pc := pc G n) (lv := [1, 3, 23, 24]) (o := ⟨[3], [2], [(2, [3])]⟩) (by
    have h : pieces an (nthC [1, 1, 1, 0, 1, 0, 0] (bodyOf Try.f47)) = [(1, 10, .loop (nthC [1, 1, 1, 0, 1, 0, 0, 1, 1, 0, 0, 1, 0, 0] (bodyOf Try.f47)))] := by kernel_rfl
    rw [h]
    exact ⟨pl10 hG n n, trivial⟩) (fun R st K => ?_) (fun m R st K r h => ?_)
  · unfold dl8; split <;> rfl
  · have e := h
    unfold dl8 at e
    split at e
    · rename_i x0 x1 x2 x3 x4; exact (s8 G n m R x0 x1 x2 x3 x4 K).trans h
    · cases e
theorem allp {G : Gs} (hG : AllE Try.prog (ents G)) (n : Nat) : AllP Try.prog an (pc G n) (pieces an (bodyOf Try.f47)) := by
    have h : pieces an (bodyOf Try.f47) = [(1, 3, .loop (nthC [1, 1, 0, 1, 0, 0] (bodyOf Try.f47))), (1, 8, .loop (nthC [1, 1, 1, 0, 1, 0, 0] (bodyOf Try.f47)))] := by kernel_rfl
    rw [h]
    exact ⟨pl3 hG n n, ⟨pl8 hG n n, trivial⟩⟩
/-- What the function computes. -/
noncomputable def Does (G : Gs) (s : So) (r : List Int) : Prop := ∃ n, main (R := AT × List Ob) G n s (fun r0 => some (.one (.l .i r0), [])) = some (.one (.l .i r), [])
theorem eq (G : Gs) (n : Nat) (s : So) : den tb (orcOf (ents G)) (pc G n) an (bodyOf Try.f47) ⟨argsD 0 [.agg [.l .s (So.names s), .l (.n 5) (So.subs s)]], []⟩ (atEnd (finF tb an [.tmp 2])) = main (R := AT × List Ob) G n s (fun r0 => some (.one (.l .i r0), [])) := by kernel_rfl
theorem ok {G : Gs} (hG : AllE Try.prog (ents G)) {g : So → Option (List Int)} (hg : ∀ s r, g s = some r → Does G s r) : EntOK Try.prog (ent g) := fun R xs H K r hc => by
  simp only [ent] at hc
  split at hc
  · rename_i a a2
    obtain ⟨r, q1, q2⟩ := bind_some hc
    obtain ⟨n, q3⟩ := hg (So.mk a a2) _ q1
    exact ⟨_, _, q2, fn_of_den (pc := pc G n) (an := an) (xs := [.agg [.l .s a, .l (.n 5) a2]]) (H := []) (fin := finF tb an [.tmp 2]) mixed tb_ok (orc_ok hG) (fn := Try.f47) (c := bodyOf Try.f47) Try.func47 (by kernel_rfl) (by kernel_rfl) (by kernel_rfl) (by kernel_rfl) (by kernel_rfl) (rs := [.tmp 2]) (by kernel_rfl) (.inl rfl) (allp hG n) ((eq G n (So.mk a a2)).trans q3)⟩
  · cases hc
end i_sortsAbove
namespace i_IsSorts
structure Gs where
  i_IsName : ByteArray → Option (Bool)
  i_sortsAbove : So → Option (List Int)
noncomputable def ents (G : Gs) : List Ent := [i_IsName.ent G.i_IsName, i_sortsAbove.ent G.i_sortsAbove]
noncomputable def b6 {R : Type} (G : Gs) (n : Nat) (n1 : Int) (t29 : List ByteArray) (t30 : Int) (t31 : Int) (h0 : List ByteArray) (h02 : List Sb) (h1 : List (ByteArray × Bool)) (nx : Int → List ByteArray → Int → Int → List ByteArray → List Sb → (List (ByteArray × Bool)) → Option R) (k0 : Bool → Option R) (k1 : Int → List ByteArray → List Sb → Option R) : Option R :=
  bif decide (t31 < t30) then
    (
    Option.bind (ix t29 t31) fun e =>
    bif mval h1 e false then
      (k0 false)
    else
      Option.bind (G.i_IsName e) fun r =>
      bif !r then
        (k0 false)
      else
        nx n1 t29 t30 (wr (t31 + 1)) h0 h02 ((e, true) :: h1)
    )
  else
    k1 n1 h0 h02
noncomputable def l6 {R : Type} (G : Gs) (n m : Nat) (n1 : Int) (t29 : List ByteArray) (t30 : Int) (t31 : Int) (h0 : List ByteArray) (h02 : List Sb) (h1 : List (ByteArray × Bool)) (k0 : Bool → Option R) (k1 : Int → List ByteArray → List Sb → Option R) : Option R := iter (fun (v : Int × List ByteArray × Int × Int × List ByteArray × List Sb × (List (ByteArray × Bool))) nx => b6 G n v.1 v.2.1 v.2.2.1 v.2.2.2.1 v.2.2.2.2.1 v.2.2.2.2.2.1 v.2.2.2.2.2.2 (fun y0 y1 y2 y3 y4 y5 y6 => nx (y0, y1, y2, y3, y4, y5, y6)) k0 k1) m (n1, t29, t30, t31, h0, h02, h1)
noncomputable def b13 {R : Type} (G : Gs) (n : Nat) (n1 : Int) (t47 : List Sb) (t48 : Int) (t49 : Int) (h0 : List ByteArray) (h02 : List Sb) (nx : Int → List Sb → Int → Int → List ByteArray → List Sb → Option R) (k0 : Bool → Option R) (k1 : List ByteArray → List Sb → Option R) : Option R :=
  bif decide (t49 < t48) then
    (
    Option.bind (ix t47 t49) fun e =>
    bif decide ((Sb.low e) < 0) then
      (k0 false)
    else
      bif decide (n1 ≤ (Sb.low e)) then
        (k0 false)
      else
        bif decide ((Sb.high e) < 0) then
          (k0 false)
        else
          bif decide (n1 ≤ (Sb.high e)) then
            (k0 false)
          else
            bif decide ((Sb.low e) = (Sb.high e)) then
              (k0 false)
            else
              nx n1 t47 t48 (wr (t49 + 1)) h0 h02
    )
  else
    k1 h0 h02
noncomputable def l13 {R : Type} (G : Gs) (n m : Nat) (n1 : Int) (t47 : List Sb) (t48 : Int) (t49 : Int) (h0 : List ByteArray) (h02 : List Sb) (k0 : Bool → Option R) (k1 : List ByteArray → List Sb → Option R) : Option R := iter (fun (v : Int × List Sb × Int × Int × List ByteArray × List Sb) nx => b13 G n v.1 v.2.1 v.2.2.1 v.2.2.2.1 v.2.2.2.2.1 v.2.2.2.2.2 (fun y0 y1 y2 y3 y4 y5 => nx (y0, y1, y2, y3, y4, y5)) k0 k1) m (n1, t47, t48, t49, h0, h02)
noncomputable def b23 {R : Type} (G : Gs) (n : Nat) (above : List Int) (i : Int) (t84 : Int) (t85 : Int) (t89 : Int) (t90 : Int) (nx : List Int → Int → Int → Int → Int → Int → Option R) (k0 : Bool → Option R) (k1 : List Int → Int → Int → Option R) : Option R :=
  bif decide (t90 < t89) then
    (
    bif !decide (i = t90) then
      (
      Option.bind (ix above i) fun e2 =>
      Option.bind (bif decide (0 ≤ t90) then some (Abs.bitsI .shl .i64 1 t90) else none) fun q2 =>
      bif !decide ((Abs.bitsI .and .i64 e2 q2) = 0) then
        (
        Option.bind (ix above t90) fun e4 =>
        Option.bind (bif decide (0 ≤ i) then some (Abs.bitsI .shl .i64 1 i) else none) fun q4 =>
        bif !decide ((Abs.bitsI .and .i64 e4 q4) = 0) then
          (k0 false)
        else
          nx above i t84 t85 t89 (wr (t90 + 1))
        )
      else
        nx above i t84 t85 t89 (wr (t90 + 1))
      )
    else
      nx above i t84 t85 t89 (wr (t90 + 1))
    )
  else
    k1 above t84 t85
noncomputable def l23 {R : Type} (G : Gs) (n m : Nat) (above : List Int) (i : Int) (t84 : Int) (t85 : Int) (t89 : Int) (t90 : Int) (k0 : Bool → Option R) (k1 : List Int → Int → Int → Option R) : Option R := iter (fun (v : List Int × Int × Int × Int × Int × Int) nx => b23 G n v.1 v.2.1 v.2.2.1 v.2.2.2.1 v.2.2.2.2.1 v.2.2.2.2.2 (fun y0 y1 y2 y3 y4 y5 => nx (y0, y1, y2, y3, y4, y5)) k0 k1) m (above, i, t84, t85, t89, t90)
noncomputable def b20 {R : Type} (G : Gs) (n : Nat) (above : List Int) (t84 : Int) (t85 : Int) (nx : List Int → Int → Int → Option R) (k0 : Bool → Option R) (k1 : Option R) : Option R :=
  bif decide (t85 < t84) then
    (
    l23 G n n above t85 t84 t85 (List.length above : Int) 0
      (fun t2 => k0 t2)
      (fun above2 t842 t852 => nx above2 t842 (wr (t852 + 1)))
    )
  else
    k1
noncomputable def l20 {R : Type} (G : Gs) (n m : Nat) (above : List Int) (t84 : Int) (t85 : Int) (k0 : Bool → Option R) (k1 : Option R) : Option R := iter (fun (v : List Int × Int × Int) nx => b20 G n v.1 v.2.1 v.2.2 (fun y0 y1 y2 => nx (y0, y1, y2)) k0 k1) m (above, t84, t85)
noncomputable def main {R : Type} (G : Gs) (n : Nat) (s : So) (K : Bool → Option R) : Option R :=
  bif decide ((List.length (So.names s) : Int) < 1) then
    (K false)
  else
    bif decide (8 < (List.length (So.names s) : Int)) then
      (K false)
    else
      bif decide (16 < (List.length (So.subs s) : Int)) then
        (K false)
      else
        l6 G n n (List.length (So.names s) : Int) (So.names s) (List.length (So.names s) : Int) 0 (So.names s) (So.subs s) []
          (fun t2 => K t2)
          (fun n1 h0 h02 =>
            l13 G n n n1 h02 (List.length h02 : Int) 0 h0 h02
              (fun t22 => K t22)
              (fun h03 h022 =>
                Option.bind (G.i_sortsAbove (So.mk h03 h022)) fun r =>
                l20 G n n r (List.length r : Int) 0
                  (fun t23 => K t23)
                  ( K true)
              )
          )
noncomputable def dl6 (G : Gs) (n m : Nat) (R : Type) (st : St) (K : Kt R) : Option R := match st with
  | ⟨[(1, .one (.p 0 0)), (3, .one (.i n1)), (4, .one (.m 1)), (29, .one (.l .s t29)), (30, .one (.i t30)), (31, .one (.i t31))], [.box [.l .s h0, .l (.n 5) h02], .map .b h1]⟩ => l6 G n m n1 t29 t30 t31 h0 h02 h1 (fun t2 => K .ret ⟨[(2, .one (.b t2))], []⟩) (fun n1 h0 h02 => K (.exit 0) ⟨[(1, .one (.p 0 0)), (3, .one (.i n1))], [.box [.l .s h0, .l (.n 5) h02]]⟩)
  | _ => none
noncomputable def dl13 (G : Gs) (n m : Nat) (R : Type) (st : St) (K : Kt R) : Option R := match st with
  | ⟨[(1, .one (.p 0 0)), (3, .one (.i n1)), (47, .one (.l (.n 5) t47)), (48, .one (.i t48)), (49, .one (.i t49))], [.box [.l .s h0, .l (.n 5) h02]]⟩ => l13 G n m n1 t47 t48 t49 h0 h02 (fun t2 => K .ret ⟨[(2, .one (.b t2))], []⟩) (fun h0 h02 => K (.exit 2) ⟨[(1, .one (.p 0 0))], [.box [.l .s h0, .l (.n 5) h02]]⟩)
  | _ => none
noncomputable def dl23 (G : Gs) (n m : Nat) (R : Type) (st : St) (K : Kt R) : Option R := match st with
  | ⟨[(9, .one (.l .i above)), (10, .one (.i i)), (84, .one (.i t84)), (85, .one (.i t85)), (89, .one (.i t89)), (90, .one (.i t90))], []⟩ => l23 G n m above i t84 t85 t89 t90 (fun t2 => K .ret ⟨[(2, .one (.b t2))], []⟩) (fun above t84 t85 => K (.exit 6) ⟨[(9, .one (.l .i above)), (84, .one (.i t84)), (85, .one (.i t85))], []⟩)
  | _ => none
noncomputable def dl20 (G : Gs) (n m : Nat) (R : Type) (st : St) (K : Kt R) : Option R := match st with
  | ⟨[(9, .one (.l .i above)), (84, .one (.i t84)), (85, .one (.i t85))], []⟩ => l20 G n m above t84 t85 (fun t2 => K .ret ⟨[(2, .one (.b t2))], []⟩) (K (.exit 4) ⟨[], []⟩)
  | _ => none
noncomputable def pc (G : Gs) (n : Nat) : Pcs := ⟨fun R id st K => bif Nat.beq id 6 then dl6 G n n R st K else bif Nat.beq id 13 then dl13 G n n R st K else bif Nat.beq id 23 then dl23 G n n R st K else bif Nat.beq id 20 then dl20 G n n R st K else none, fun _ _ _ _ => none, fun _ _ _ _ => none⟩
noncomputable def an : Ann := ⟨118, 0, [(6, [1, 3, 4, 29, 30, 31]), (13, [1, 3, 47, 48, 49]), (23, [9, 10, 84, 85, 89, 90]), (20, [9, 84, 85])], [], [2], [(25, ⟨[([0, 1, 2, 3, 4, 5, 6, 7, 8, 9, 10, 11, 12, 13, 14, 15, 16, 17, 18, 19, 20, 21, 22], [], [])], [], [], [], []⟩)]⟩
theorem s6 (G : Gs) (n m : Nat) (R : Type) (n1 : Int) (t29 : List ByteArray) (t30 : Int) (t31 : Int) (h0 : List ByteArray) (h02 : List Sb) (h1 : List (ByteArray × Bool)) (K : Kt R) : den tb (orcOf (ents G)) (pc G n) an (nthC [1, 1, 1, 1, 0, 1, 0, 0] (bodyOf Try.f46)) ⟨[(1, .one (.p 0 0)), (3, .one (.i n1)), (4, .one (.m 1)), (29, .one (.l .s t29)), (30, .one (.i t30)), (31, .one (.i t31))], [.box [.l .s h0, .l (.n 5) h02], .map .b h1]⟩ (roundK an.refs [1, 3, 4, 29, 30, 31] ⟨[1, 3], [2], [(0, [1, 3])]⟩ (fun st => dl6 G n m R st K) K) = dl6 G n (m + 1) R ⟨[(1, .one (.p 0 0)), (3, .one (.i n1)), (4, .one (.m 1)), (29, .one (.l .s t29)), (30, .one (.i t30)), (31, .one (.i t31))], [.box [.l .s h0, .l (.n 5) h02], .map .b h1]⟩ K := by kernel_rfl
theorem pl6 {G : Gs} (hG : AllE Try.prog (ents G)) (n : Nat) : ∀ m, PieceOK Try.prog an (.loop (nthC [1, 1, 1, 1, 0, 1, 0, 0] (bodyOf Try.f46))) (dl6 G n m) := by
  refine loop_piece mixed tb_ok (orc_ok hG) (pc := pc G n) (lv := [1, 3, 4, 29, 30, 31]) (o := ⟨[1, 3], [2], [(0, [1, 3])]⟩) (by
    have h : pieces an (nthC [1, 1, 1, 1, 0, 1, 0, 0] (bodyOf Try.f46)) = [] := by kernel_rfl
    rw [h]
    exact trivial) (fun R st K => ?_) (fun m R st K r h => ?_)
  · unfold dl6; split <;> rfl
  · have e := h
    unfold dl6 at e
    split at e
    · rename_i x0 x1 x2 x3 x4 x5 x6; exact (s6 G n m R x0 x1 x2 x3 x4 x5 x6 K).trans h
    · cases e
theorem s13 (G : Gs) (n m : Nat) (R : Type) (n1 : Int) (t47 : List Sb) (t48 : Int) (t49 : Int) (h0 : List ByteArray) (h02 : List Sb) (K : Kt R) : den tb (orcOf (ents G)) (pc G n) an (nthC [1, 1, 1, 1, 1, 0, 1, 0, 0] (bodyOf Try.f46)) ⟨[(1, .one (.p 0 0)), (3, .one (.i n1)), (47, .one (.l (.n 5) t47)), (48, .one (.i t48)), (49, .one (.i t49))], [.box [.l .s h0, .l (.n 5) h02]]⟩ (roundK an.refs [1, 3, 47, 48, 49] ⟨[1], [2], [(2, [1])]⟩ (fun st => dl13 G n m R st K) K) = dl13 G n (m + 1) R ⟨[(1, .one (.p 0 0)), (3, .one (.i n1)), (47, .one (.l (.n 5) t47)), (48, .one (.i t48)), (49, .one (.i t49))], [.box [.l .s h0, .l (.n 5) h02]]⟩ K := by kernel_rfl
theorem pl13 {G : Gs} (hG : AllE Try.prog (ents G)) (n : Nat) : ∀ m, PieceOK Try.prog an (.loop (nthC [1, 1, 1, 1, 1, 0, 1, 0, 0] (bodyOf Try.f46))) (dl13 G n m) := by
  refine loop_piece mixed tb_ok (orc_ok hG) (pc := pc G n) (lv := [1, 3, 47, 48, 49]) (o := ⟨[1], [2], [(2, [1])]⟩) (by
    have h : pieces an (nthC [1, 1, 1, 1, 1, 0, 1, 0, 0] (bodyOf Try.f46)) = [] := by kernel_rfl
    rw [h]
    exact trivial) (fun R st K => ?_) (fun m R st K r h => ?_)
  · unfold dl13; split <;> rfl
  · have e := h
    unfold dl13 at e
    split at e
    · rename_i x0 x1 x2 x3 x4 x5; exact (s13 G n m R x0 x1 x2 x3 x4 x5 K).trans h
    · cases e
theorem s23 (G : Gs) (n m : Nat) (R : Type) (above : List Int) (i : Int) (t84 : Int) (t85 : Int) (t89 : Int) (t90 : Int) (K : Kt R) : den tb (orcOf (ents G)) (pc G n) an (nthC [1, 1, 1, 1, 1, 1, 1, 0, 1, 0, 0, 1, 1, 0, 0, 1, 1, 0, 0] (bodyOf Try.f46)) ⟨[(9, .one (.l .i above)), (10, .one (.i i)), (84, .one (.i t84)), (85, .one (.i t85)), (89, .one (.i t89)), (90, .one (.i t90))], []⟩ (roundK an.refs [9, 10, 84, 85, 89, 90] ⟨[9, 84, 85], [2], [(4, []), (5, [9, 84, 85]), (6, [9, 84, 85])]⟩ (fun st => dl23 G n m R st K) K) = dl23 G n (m + 1) R ⟨[(9, .one (.l .i above)), (10, .one (.i i)), (84, .one (.i t84)), (85, .one (.i t85)), (89, .one (.i t89)), (90, .one (.i t90))], []⟩ K := by kernel_rfl
theorem pl23 {G : Gs} (hG : AllE Try.prog (ents G)) (n : Nat) : ∀ m, PieceOK Try.prog an (.loop (nthC [1, 1, 1, 1, 1, 1, 1, 0, 1, 0, 0, 1, 1, 0, 0, 1, 1, 0, 0] (bodyOf Try.f46))) (dl23 G n m) := by
  refine loop_piece mixed tb_ok (orc_ok hG) (pc := pc G n) (lv := [9, 10, 84, 85, 89, 90]) (o := ⟨[9, 84, 85], [2], [(4, []), (5, [9, 84, 85]), (6, [9, 84, 85])]⟩) (by
    have h : pieces an (nthC [1, 1, 1, 1, 1, 1, 1, 0, 1, 0, 0, 1, 1, 0, 0, 1, 1, 0, 0] (bodyOf Try.f46)) = [] := by kernel_rfl
    rw [h]
    exact trivial) (fun R st K => ?_) (fun m R st K r h => ?_)
  · unfold dl23; split <;> rfl
  · have e := h
    unfold dl23 at e
    split at e
    · rename_i x0 x1 x2 x3 x4 x5; exact (s23 G n m R x0 x1 x2 x3 x4 x5 K).trans h
    · cases e
theorem s20 (G : Gs) (n m : Nat) (R : Type) (above : List Int) (t84 : Int) (t85 : Int) (K : Kt R) : den tb (orcOf (ents G)) (pc G n) an (nthC [1, 1, 1, 1, 1, 1, 1, 0, 1, 0, 0] (bodyOf Try.f46)) ⟨[(9, .one (.l .i above)), (84, .one (.i t84)), (85, .one (.i t85))], []⟩ (roundK an.refs [9, 84, 85] ⟨[], [2], [(4, [])]⟩ (fun st => dl20 G n m R st K) K) = dl20 G n (m + 1) R ⟨[(9, .one (.l .i above)), (84, .one (.i t84)), (85, .one (.i t85))], []⟩ K := by kernel_rfl
theorem pl20 {G : Gs} (hG : AllE Try.prog (ents G)) (n : Nat) : ∀ m, PieceOK Try.prog an (.loop (nthC [1, 1, 1, 1, 1, 1, 1, 0, 1, 0, 0] (bodyOf Try.f46))) (dl20 G n m) := by
  refine loop_piece mixed tb_ok (orc_ok hG) (pc := pc G n) (lv := [9, 84, 85]) (o := ⟨[], [2], [(4, [])]⟩) (by
    have h : pieces an (nthC [1, 1, 1, 1, 1, 1, 1, 0, 1, 0, 0] (bodyOf Try.f46)) = [(1, 23, .loop (nthC [1, 1, 1, 1, 1, 1, 1, 0, 1, 0, 0, 1, 1, 0, 0, 1, 1, 0, 0] (bodyOf Try.f46)))] := by kernel_rfl
    rw [h]
    exact ⟨pl23 hG n n, trivial⟩) (fun R st K => ?_) (fun m R st K r h => ?_)
  · unfold dl20; split <;> rfl
  · have e := h
    unfold dl20 at e
    split at e
    · rename_i x0 x1 x2; exact (s20 G n m R x0 x1 x2 K).trans h
    · cases e
theorem allp {G : Gs} (hG : AllE Try.prog (ents G)) (n : Nat) : AllP Try.prog an (pc G n) (pieces an (bodyOf Try.f46)) := by
    have h : pieces an (bodyOf Try.f46) = [(1, 6, .loop (nthC [1, 1, 1, 1, 0, 1, 0, 0] (bodyOf Try.f46))), (1, 13, .loop (nthC [1, 1, 1, 1, 1, 0, 1, 0, 0] (bodyOf Try.f46))), (1, 20, .loop (nthC [1, 1, 1, 1, 1, 1, 1, 0, 1, 0, 0] (bodyOf Try.f46)))] := by kernel_rfl
    rw [h]
    exact ⟨pl6 hG n n, ⟨pl13 hG n n, ⟨pl20 hG n n, trivial⟩⟩⟩
/-- What the function computes. -/
noncomputable def Does (G : Gs) (s : So) (r : Bool) : Prop := ∃ n, main (R := AT × List Ob) G n s (fun r0 => some (.one (.b r0), [])) = some (.one (.b r), [])
theorem eq (G : Gs) (n : Nat) (s : So) : den tb (orcOf (ents G)) (pc G n) an (bodyOf Try.f46) ⟨argsD 0 [.agg [.l .s (So.names s), .l (.n 5) (So.subs s)]], []⟩ (atEnd (finF tb an [.tmp 2])) = main (R := AT × List Ob) G n s (fun r0 => some (.one (.b r0), [])) := by kernel_rfl
theorem ok {G : Gs} (hG : AllE Try.prog (ents G)) {g : So → Option (Bool)} (hg : ∀ s r, g s = some r → Does G s r) : EntOK Try.prog (ent g) := fun R xs H K r hc => by
  simp only [ent] at hc
  split at hc
  · rename_i a a2
    obtain ⟨r, q1, q2⟩ := bind_some hc
    obtain ⟨n, q3⟩ := hg (So.mk a a2) _ q1
    exact ⟨_, _, q2, fn_of_den (pc := pc G n) (an := an) (xs := [.agg [.l .s a, .l (.n 5) a2]]) (H := []) (fin := finF tb an [.tmp 2]) mixed tb_ok (orc_ok hG) (fn := Try.f46) (c := bodyOf Try.f46) Try.func46 (by kernel_rfl) (by kernel_rfl) (by kernel_rfl) (by kernel_rfl) (by kernel_rfl) (rs := [.tmp 2]) (by kernel_rfl) (.inl rfl) (allp hG n) ((eq G n (So.mk a a2)).trans q3)⟩
  · cases hc
end i_IsSorts
namespace i_newOrder
structure Gs where
  i_IsSorts : So → Option (Bool)
  i_sortsAbove : So → Option (List Int)
  i_ListOf : Int → Option (List Int)
noncomputable def ents (G : Gs) : List Ent := [i_IsSorts.ent G.i_IsSorts, i_sortsAbove.ent G.i_sortsAbove, i_ListOf.ent G.i_ListOf]
noncomputable def d4 {R : Type} (G : Gs) (n : Nat) (n1 : Int) (h0 : List ByteArray) (h02 : List Sb) (h2 : List Int) (h3 : List Int) (h4 : List Int) (k0 : Int → List ByteArray → List Sb → List Int → List Int → List Int → List Int → List Int → List Int → Option R) : Option R :=
  Option.bind (mk (α := Int) 0 n1) fun xs =>
  Option.bind (mk (α := Int) 0 n1) fun xs2 =>
  Option.bind (G.i_sortsAbove (So.mk h0 h02)) fun r2 =>
  k0 n1 h0 h02 h2 h3 h4 r2 xs xs2
noncomputable def d4_2 {R : Type} (G : Gs) (n : Nat) (n1 : Int) (h0 : List ByteArray) (h02 : List Sb) (h2 : List Int) (h3 : List Int) (h4 : List Int) (k0 : Int → List ByteArray → List Sb → List Int → List Int → List Int → List Int → List Int → List Int → Option R) : Option R :=
  Option.bind (mk (α := Int) 0 n1) fun xs =>
  Option.bind (mk (α := Int) 0 n1) fun xs2 =>
  Option.bind (G.i_sortsAbove (So.mk h0 h02)) fun r2 =>
  k0 n1 h0 h02 h2 h3 h4 r2 xs2 xs
theorem e4_2 {R : Type} (G : Gs) (n : Nat) (n1 : Int) (h0 : List ByteArray) (h02 : List Sb) (h2 : List Int) (h3 : List Int) (h4 : List Int) (k0 : Int → List ByteArray → List Sb → List Int → List Int → List Int → List Int → List Int → List Int → Option R) : d4_2 G n n1 h0 h02 h2 h3 h4 k0 = d4 G n n1 h0 h02 h2 h3 h4 k0 := by
  unfold d4_2 d4
  generalize mk (α := Int) 0 n1 = o0
  generalize G.i_sortsAbove (So.mk h0 h02) = o1
  cases o0 <;> cases o1 <;> first | rfl | simp
noncomputable def d4_3 {R : Type} (G : Gs) (n : Nat) (n1 : Int) (h0 : List ByteArray) (h02 : List Sb) (h2 : List Int) (h3 : List Int) (h4 : List Int) (k0 : Int → List ByteArray → List Sb → List Int → List Int → List Int → List Int → List Int → List Int → Option R) : Option R :=
  Option.bind (mk (α := Int) 0 n1) fun xs =>
  Option.bind (mk (α := Int) 0 n1) fun xs2 =>
  Option.bind (G.i_sortsAbove (So.mk h0 h02)) fun r2 =>
  k0 n1 h0 h02 h2 h3 h4 r2 xs2 xs
theorem e4_3 {R : Type} (G : Gs) (n : Nat) (n1 : Int) (h0 : List ByteArray) (h02 : List Sb) (h2 : List Int) (h3 : List Int) (h4 : List Int) (k0 : Int → List ByteArray → List Sb → List Int → List Int → List Int → List Int → List Int → List Int → Option R) : d4_3 G n n1 h0 h02 h2 h3 h4 k0 = d4 G n n1 h0 h02 h2 h3 h4 k0 := by
  unfold d4_3 d4
  generalize mk (α := Int) 0 n1 = o0
  generalize G.i_sortsAbove (So.mk h0 h02) = o1
  cases o0 <;> cases o1 <;> first | rfl | simp
noncomputable def d4_5 {R : Type} (G : Gs) (n : Nat) (n1 : Int) (h0 : List ByteArray) (h02 : List Sb) (h2 : List Int) (h3 : List Int) (h4 : List Int) (k0 : Int → List ByteArray → List Sb → List Int → List Int → List Int → List Int → List Int → List Int → Option R) : Option R :=
  Option.bind (mk (α := Int) 0 n1) fun xs =>
  Option.bind (mk (α := Int) 0 n1) fun xs2 =>
  Option.bind (G.i_sortsAbove (So.mk h0 h02)) fun r2 =>
  k0 n1 h0 h02 h2 h3 h4 r2 xs2 xs
theorem e4_5 {R : Type} (G : Gs) (n : Nat) (n1 : Int) (h0 : List ByteArray) (h02 : List Sb) (h2 : List Int) (h3 : List Int) (h4 : List Int) (k0 : Int → List ByteArray → List Sb → List Int → List Int → List Int → List Int → List Int → List Int → Option R) : d4_5 G n n1 h0 h02 h2 h3 h4 k0 = d4 G n n1 h0 h02 h2 h3 h4 k0 := by
  unfold d4_5 d4
  generalize mk (α := Int) 0 n1 = o0
  generalize G.i_sortsAbove (So.mk h0 h02) = o1
  cases o0 <;> cases o1 <;> first | rfl | simp
noncomputable def b9 {R : Type} (G : Gs) (n : Nat) (n1 : Int) (i : Int) (t28 : List Int) (t29 : Int) (t30 : Int) (t36 : List Int) (t37 : Int) (t38 : Int) (h0 : List ByteArray) (h02 : List Sb) (h2 : List Int) (h3 : List Int) (h4 : List Int) (h5 : List Int) (h6 : List Int) (h7 : List Int) (nx : Int → Int → List Int → Int → Int → List Int → Int → Int → List ByteArray → List Sb → List Int → List Int → List Int → List Int → List Int → List Int → Option R) (k0 : Int → Int → List Int → Int → Int → List ByteArray → List Sb → List Int → List Int → List Int → List Int → List Int → List Int → Option R) : Option R :=
  bif decide (t38 < t37) then
    (
    Option.bind (ix t36 t38) fun e =>
    Option.bind (ix h6 e) fun e7 =>
    Option.bind (bif decide (0 ≤ i) then some (Abs.bitsI .shl .i64 1 i) else none) fun q4 =>
    Option.bind (ix h6 e) fun e9 =>
    nx n1 i t28 t29 t30 t36 t37 (wr (t38 + 1)) h0 h02 h2 h3 h4 h5 (List.set h6 (Int.toNat e) (Abs.bitsI .or .i64 e7 q4)) h7
    )
  else
    k0 n1 i t28 t29 t30 h0 h02 h2 h3 h4 h5 h6 h7
noncomputable def l9 {R : Type} (G : Gs) (n m : Nat) (n1 : Int) (i : Int) (t28 : List Int) (t29 : Int) (t30 : Int) (t36 : List Int) (t37 : Int) (t38 : Int) (h0 : List ByteArray) (h02 : List Sb) (h2 : List Int) (h3 : List Int) (h4 : List Int) (h5 : List Int) (h6 : List Int) (h7 : List Int) (k0 : Int → Int → List Int → Int → Int → List ByteArray → List Sb → List Int → List Int → List Int → List Int → List Int → List Int → Option R) : Option R := iter (fun (v : Int × Int × List Int × Int × Int × List Int × Int × Int × List ByteArray × List Sb × List Int × List Int × List Int × List Int × List Int × List Int) nx => b9 G n v.1 v.2.1 v.2.2.1 v.2.2.2.1 v.2.2.2.2.1 v.2.2.2.2.2.1 v.2.2.2.2.2.2.1 v.2.2.2.2.2.2.2.1 v.2.2.2.2.2.2.2.2.1 v.2.2.2.2.2.2.2.2.2.1 v.2.2.2.2.2.2.2.2.2.2.1 v.2.2.2.2.2.2.2.2.2.2.2.1 v.2.2.2.2.2.2.2.2.2.2.2.2.1 v.2.2.2.2.2.2.2.2.2.2.2.2.2.1 v.2.2.2.2.2.2.2.2.2.2.2.2.2.2.1 v.2.2.2.2.2.2.2.2.2.2.2.2.2.2.2 (fun y0 y1 y2 y3 y4 y5 y6 y7 y8 y9 y10 y11 y12 y13 y14 y15 => nx (y0, y1, y2, y3, y4, y5, y6, y7, y8, y9, y10, y11, y12, y13, y14, y15)) k0) m (n1, i, t28, t29, t30, t36, t37, t38, h0, h02, h2, h3, h4, h5, h6, h7)
noncomputable def b6 {R : Type} (G : Gs) (n : Nat) (n1 : Int) (t28 : List Int) (t29 : Int) (t30 : Int) (h0 : List ByteArray) (h02 : List Sb) (h2 : List Int) (h3 : List Int) (h4 : List Int) (h5 : List Int) (h6 : List Int) (h7 : List Int) (nx : Int → List Int → Int → Int → List ByteArray → List Sb → List Int → List Int → List Int → List Int → List Int → List Int → Option R) (k0 : Int → List ByteArray → List Sb → List Int → List Int → List Int → List Int → List Int → List Int → Option R) : Option R :=
  bif decide (t30 < t29) then
    (
    Option.bind (ix t28 t30) fun e =>
    Option.bind (G.i_ListOf e) fun r =>
    l9 G n n n1 t30 t28 t29 t30 r (List.length r : Int) 0 h0 h02 h2 h3 h4 h5 h6 h7
      (fun n12 i t282 t292 t302 h03 h022 h22 h32 h42 h52 h62 h72 =>
        Option.bind (ix h72 i) fun e2 =>
        nx n12 t282 t292 (wr (t302 + 1)) h03 h022 h22 h32 h42 h52 h62 (List.set h72 (Int.toNat i) i)
      )
    )
  else
    k0 n1 h0 h02 h2 h3 h4 h5 h6 h7
noncomputable def l6 {R : Type} (G : Gs) (n m : Nat) (n1 : Int) (t28 : List Int) (t29 : Int) (t30 : Int) (h0 : List ByteArray) (h02 : List Sb) (h2 : List Int) (h3 : List Int) (h4 : List Int) (h5 : List Int) (h6 : List Int) (h7 : List Int) (k0 : Int → List ByteArray → List Sb → List Int → List Int → List Int → List Int → List Int → List Int → Option R) : Option R := iter (fun (v : Int × List Int × Int × Int × List ByteArray × List Sb × List Int × List Int × List Int × List Int × List Int × List Int) nx => b6 G n v.1 v.2.1 v.2.2.1 v.2.2.2.1 v.2.2.2.2.1 v.2.2.2.2.2.1 v.2.2.2.2.2.2.1 v.2.2.2.2.2.2.2.1 v.2.2.2.2.2.2.2.2.1 v.2.2.2.2.2.2.2.2.2.1 v.2.2.2.2.2.2.2.2.2.2.1 v.2.2.2.2.2.2.2.2.2.2.2 (fun y0 y1 y2 y3 y4 y5 y6 y7 y8 y9 y10 y11 => nx (y0, y1, y2, y3, y4, y5, y6, y7, y8, y9, y10, y11)) k0) m (n1, t28, t29, t30, h0, h02, h2, h3, h4, h5, h6, h7)
noncomputable def b18 {R : Type} (G : Gs) (n : Nat) (t61 : Int) (t62 : Int) (t65 : List Sb) (t66 : Int) (t67 : Int) (h0 : List ByteArray) (h02 : List Sb) (h2 : List Int) (h3 : List Int) (h4 : List Int) (h5 : List Int) (h6 : List Int) (h7 : List Int) (nx : Int → Int → List Sb → Int → Int → List ByteArray → List Sb → List Int → List Int → List Int → List Int → List Int → List Int → Option R) (k0 : Int → Int → List ByteArray → List Sb → List Int → List Int → List Int → List Int → List Int → List Int → Option R) : Option R :=
  bif decide (t67 < t66) then
    (
    Option.bind (ix t65 t67) fun e =>
    Option.bind (ix h7 (Sb.low e)) fun e3 =>
    Option.bind (ix h7 (Sb.high e)) fun e5 =>
    Option.bind (ix h7 (Sb.low e)) fun e6 =>
    Option.bind (ix (List.set h7 (Int.toNat (Sb.low e)) (imin e3 e5)) (Sb.high e)) fun e7 =>
    nx t61 t62 t65 t66 (wr (t67 + 1)) h0 h02 h2 h3 h4 h5 h6 (List.set (List.set h7 (Int.toNat (Sb.low e)) (imin e3 e5)) (Int.toNat (Sb.high e)) (imin e3 e5))
    )
  else
    k0 t61 t62 h0 h02 h2 h3 h4 h5 h6 h7
noncomputable def l18 {R : Type} (G : Gs) (n m : Nat) (t61 : Int) (t62 : Int) (t65 : List Sb) (t66 : Int) (t67 : Int) (h0 : List ByteArray) (h02 : List Sb) (h2 : List Int) (h3 : List Int) (h4 : List Int) (h5 : List Int) (h6 : List Int) (h7 : List Int) (k0 : Int → Int → List ByteArray → List Sb → List Int → List Int → List Int → List Int → List Int → List Int → Option R) : Option R := iter (fun (v : Int × Int × List Sb × Int × Int × List ByteArray × List Sb × List Int × List Int × List Int × List Int × List Int × List Int) nx => b18 G n v.1 v.2.1 v.2.2.1 v.2.2.2.1 v.2.2.2.2.1 v.2.2.2.2.2.1 v.2.2.2.2.2.2.1 v.2.2.2.2.2.2.2.1 v.2.2.2.2.2.2.2.2.1 v.2.2.2.2.2.2.2.2.2.1 v.2.2.2.2.2.2.2.2.2.2.1 v.2.2.2.2.2.2.2.2.2.2.2.1 v.2.2.2.2.2.2.2.2.2.2.2.2 (fun y0 y1 y2 y3 y4 y5 y6 y7 y8 y9 y10 y11 y12 => nx (y0, y1, y2, y3, y4, y5, y6, y7, y8, y9, y10, y11, y12)) k0) m (t61, t62, t65, t66, t67, h0, h02, h2, h3, h4, h5, h6, h7)
noncomputable def b16 {R : Type} (G : Gs) (n : Nat) (t61 : Int) (t62 : Int) (h0 : List ByteArray) (h02 : List Sb) (h2 : List Int) (h3 : List Int) (h4 : List Int) (h5 : List Int) (h6 : List Int) (h7 : List Int) (nx : Int → Int → List ByteArray → List Sb → List Int → List Int → List Int → List Int → List Int → List Int → Option R) (k0 : List Int → List Int → List Int → List Int → List Int → List Int → Option R) : Option R :=
  bif decide (t62 < t61) then
    (
    l18 G n n t61 t62 h02 (List.length h02 : Int) 0 h0 h02 h2 h3 h4 h5 h6 h7
      (fun t612 t622 h03 h022 h22 h32 h42 h52 h62 h72 => nx t612 (wr (t622 + 1)) h03 h022 h22 h32 h42 h52 h62 h72)
    )
  else
    k0 h2 h3 h4 h5 h6 h7
noncomputable def l16 {R : Type} (G : Gs) (n m : Nat) (t61 : Int) (t62 : Int) (h0 : List ByteArray) (h02 : List Sb) (h2 : List Int) (h3 : List Int) (h4 : List Int) (h5 : List Int) (h6 : List Int) (h7 : List Int) (k0 : List Int → List Int → List Int → List Int → List Int → List Int → Option R) : Option R := iter (fun (v : Int × Int × List ByteArray × List Sb × List Int × List Int × List Int × List Int × List Int × List Int) nx => b16 G n v.1 v.2.1 v.2.2.1 v.2.2.2.1 v.2.2.2.2.1 v.2.2.2.2.2.1 v.2.2.2.2.2.2.1 v.2.2.2.2.2.2.2.1 v.2.2.2.2.2.2.2.2.1 v.2.2.2.2.2.2.2.2.2 (fun y0 y1 y2 y3 y4 y5 y6 y7 y8 y9 => nx (y0, y1, y2, y3, y4, y5, y6, y7, y8, y9)) k0) m (t61, t62, h0, h02, h2, h3, h4, h5, h6, h7)
noncomputable def main {R : Type} (G : Gs) (n : Nat) (s : So) (K : Od → Bool → Option R) : Option R :=
  Option.bind (G.i_IsSorts s) fun r =>
  bif !r then
    (K (Od.mk [] [] []) false)
  else
    d4 G n (List.length (So.names s) : Int) (So.names s) (So.subs s) [] [] []
      (fun n1 h0 h02 h2 h3 h4 h5 h6 h7 =>
        l6 G n n n1 h5 (List.length h5 : Int) 0 h0 h02 h2 h3 h4 h5 h6 h7
          (fun n12 h03 h022 h22 h32 h42 h52 h62 h72 =>
            l16 G n n n12 0 h03 h022 h22 h32 h42 h52 h62 h72
              (fun h1 h23 h33 h43 h53 h63 => K (Od.mk h43 h53 h63) true)
          )
      )
noncomputable def dd4 (G : Gs) (n : Nat) (R : Type) (st : St) (K : Kt R) : Option R := match st with
  | ⟨[(1, .one (.p 0 0)), (2, .one (.p 1 0)), (4, .one (.i n1))], [.box [.l .s h0, .l (.n 5) h02], .box [.o 2, .o 3, .o 4], .row .i 0 h2, .row .i 0 h3, .row .i 0 h4]⟩ => d4 G n n1 h0 h02 h2 h3 h4 (fun n1 h0 h02 h2 h3 h4 h5 h6 h7 => K .normal ⟨[(1, .one (.p 0 0)), (2, .one (.p 1 0)), (4, .one (.i n1)), (5, .one (.p 5 0))], [.box [.l .s h0, .l (.n 5) h02], .box [.o 2, .o 3, .o 4], .row .i 0 h2, .row .i 0 h3, .row .i 0 h4, .box [.l .i h5, .o 6, .o 7], .row .i 0 h6, .row .i 0 h7]⟩)
  | _ => none
noncomputable def dl9 (G : Gs) (n m : Nat) (R : Type) (st : St) (K : Kt R) : Option R := match st with
  | ⟨[(1, .one (.p 0 0)), (2, .one (.p 1 0)), (4, .one (.i n1)), (5, .one (.p 5 0)), (6, .one (.i i)), (28, .one (.l .i t28)), (29, .one (.i t29)), (30, .one (.i t30)), (36, .one (.l .i t36)), (37, .one (.i t37)), (38, .one (.i t38))], [.box [.l .s h0, .l (.n 5) h02], .box [.o 2, .o 3, .o 4], .row .i 0 h2, .row .i 0 h3, .row .i 0 h4, .box [.l .i h5, .o 6, .o 7], .row .i 0 h6, .row .i 0 h7]⟩ => l9 G n m n1 i t28 t29 t30 t36 t37 t38 h0 h02 h2 h3 h4 h5 h6 h7 (fun n1 i t28 t29 t30 h0 h02 h2 h3 h4 h5 h6 h7 => K (.exit 2) ⟨[(1, .one (.p 0 0)), (2, .one (.p 1 0)), (4, .one (.i n1)), (5, .one (.p 5 0)), (6, .one (.i i)), (28, .one (.l .i t28)), (29, .one (.i t29)), (30, .one (.i t30))], [.box [.l .s h0, .l (.n 5) h02], .box [.o 2, .o 3, .o 4], .row .i 0 h2, .row .i 0 h3, .row .i 0 h4, .box [.l .i h5, .o 6, .o 7], .row .i 0 h6, .row .i 0 h7]⟩)
  | _ => none
noncomputable def dl6 (G : Gs) (n m : Nat) (R : Type) (st : St) (K : Kt R) : Option R := match st with
  | ⟨[(1, .one (.p 0 0)), (2, .one (.p 1 0)), (4, .one (.i n1)), (5, .one (.p 5 0)), (28, .one (.l .i t28)), (29, .one (.i t29)), (30, .one (.i t30))], [.box [.l .s h0, .l (.n 5) h02], .box [.o 2, .o 3, .o 4], .row .i 0 h2, .row .i 0 h3, .row .i 0 h4, .box [.l .i h5, .o 6, .o 7], .row .i 0 h6, .row .i 0 h7]⟩ => l6 G n m n1 t28 t29 t30 h0 h02 h2 h3 h4 h5 h6 h7 (fun n1 h0 h02 h2 h3 h4 h5 h6 h7 => K (.exit 0) ⟨[(1, .one (.p 0 0)), (2, .one (.p 1 0)), (4, .one (.i n1)), (5, .one (.p 5 0))], [.box [.l .s h0, .l (.n 5) h02], .box [.o 2, .o 3, .o 4], .row .i 0 h2, .row .i 0 h3, .row .i 0 h4, .box [.l .i h5, .o 6, .o 7], .row .i 0 h6, .row .i 0 h7]⟩)
  | _ => none
noncomputable def dl18 (G : Gs) (n m : Nat) (R : Type) (st : St) (K : Kt R) : Option R := match st with
  | ⟨[(1, .one (.p 0 0)), (2, .one (.p 1 0)), (5, .one (.p 5 0)), (61, .one (.i t61)), (62, .one (.i t62)), (65, .one (.l (.n 5) t65)), (66, .one (.i t66)), (67, .one (.i t67))], [.box [.l .s h0, .l (.n 5) h02], .box [.o 2, .o 3, .o 4], .row .i 0 h2, .row .i 0 h3, .row .i 0 h4, .box [.l .i h5, .o 6, .o 7], .row .i 0 h6, .row .i 0 h7]⟩ => l18 G n m t61 t62 t65 t66 t67 h0 h02 h2 h3 h4 h5 h6 h7 (fun t61 t62 h0 h02 h2 h3 h4 h5 h6 h7 => K (.exit 6) ⟨[(1, .one (.p 0 0)), (2, .one (.p 1 0)), (5, .one (.p 5 0)), (61, .one (.i t61)), (62, .one (.i t62))], [.box [.l .s h0, .l (.n 5) h02], .box [.o 2, .o 3, .o 4], .row .i 0 h2, .row .i 0 h3, .row .i 0 h4, .box [.l .i h5, .o 6, .o 7], .row .i 0 h6, .row .i 0 h7]⟩)
  | _ => none
noncomputable def dl16 (G : Gs) (n m : Nat) (R : Type) (st : St) (K : Kt R) : Option R := match st with
  | ⟨[(1, .one (.p 0 0)), (2, .one (.p 1 0)), (5, .one (.p 5 0)), (61, .one (.i t61)), (62, .one (.i t62))], [.box [.l .s h0, .l (.n 5) h02], .box [.o 2, .o 3, .o 4], .row .i 0 h2, .row .i 0 h3, .row .i 0 h4, .box [.l .i h5, .o 6, .o 7], .row .i 0 h6, .row .i 0 h7]⟩ => l16 G n m t61 t62 h0 h02 h2 h3 h4 h5 h6 h7 (fun h1 h2 h3 h4 h5 h6 => K (.exit 4) ⟨[(2, .one (.p 0 0)), (5, .one (.p 4 0))], [.box [.o 1, .o 2, .o 3], .row .i 0 h1, .row .i 0 h2, .row .i 0 h3, .box [.l .i h4, .o 5, .o 6], .row .i 0 h5, .row .i 0 h6]⟩)
  | _ => none
noncomputable def pc (G : Gs) (n : Nat) : Pcs := ⟨fun R id st K => bif Nat.beq id 9 then dl9 G n n R st K else bif Nat.beq id 6 then dl6 G n n R st K else bif Nat.beq id 18 then dl18 G n n R st K else bif Nat.beq id 16 then dl16 G n n R st K else none, fun _ _ _ _ => none, fun R id st K => bif Nat.beq id 4 then dd4 G n R st K else none⟩
noncomputable def an : Ann := ⟨99, 0, [(9, [1, 2, 4, 5, 6, 28, 29, 30, 36, 37, 38]), (6, [1, 2, 4, 5, 28, 29, 30]), (18, [1, 2, 5, 61, 62, 65, 66, 67]), (16, [1, 2, 5, 61, 62])], [], [2, 3], [(4, ⟨[([2, 3, 4, 5, 7, 0, 1, 6, 8], [3, 5, 7, 8], []), ([2, 3, 7, 4, 5, 0, 1, 6, 8], [3, 7, 5, 8], []), ([4, 5, 2, 3, 7, 0, 1, 6, 8], [5, 3, 7, 8], []), ([4, 5, 7, 2, 3, 0, 1, 6, 8], [5, 7, 3, 8], []), ([7, 2, 3, 4, 5, 0, 1, 6, 8], [7, 3, 5, 8], []), ([7, 4, 5, 2, 3, 0, 1, 6, 8], [7, 5, 3, 8], [])], [3, 5, 7, 8], [], [0, 1, 2, 3, 4], [1, 2, 4]⟩), (11, ⟨[([0, 1, 2, 3, 4, 5, 6, 7, 8, 9, 10, 11, 12], [12], [6, 7, 11])], [12], [], [0, 1, 2, 3, 4, 5, 7], []⟩), (20, ⟨[([0, 1, 2, 3, 4, 5, 6, 7, 8, 9, 10, 11, 12, 13], [], [])], [], [], [0, 1, 2, 3, 4, 5, 6, 7, 8], []⟩)]⟩
theorem s4_0 (G : Gs) (n : Nat) (R : Type) (n1 : Int) (h0 : List ByteArray) (h02 : List Sb) (h2 : List Int) (h3 : List Int) (h4 : List Int) (K : Kt R) : (fun st1 : St => drawD tb (orcOf (ents G)) an.nt (opsOf (nthC [1, 1, 1, 0] (bodyOf Try.f31))) (maskH [0, 1, 2, 3, 4] st1.H) [2, 3, 4, 5, 7, 0, 1, 6, 8] [3, 5, 7, 8] [] [] [2, 3, 4, 5, 7, 0, 1, 6, 8] st1.L st1.H st1.H fun L H => outK an.refs ⟨[1, 2, 4, 5], [2, 3], []⟩ K .normal ⟨L, H⟩) (fzIds (slotRows (St.L ⟨[(1, .one (.p 0 0)), (2, .one (.p 1 0)), (4, .one (.i n1))], [.box [.l .s h0, .l (.n 5) h02], .box [.o 2, .o 3, .o 4], .row .i 0 h2, .row .i 0 h3, .row .i 0 h4]⟩) (St.H ⟨[(1, .one (.p 0 0)), (2, .one (.p 1 0)), (4, .one (.i n1))], [.box [.l .s h0, .l (.n 5) h02], .box [.o 2, .o 3, .o 4], .row .i 0 h2, .row .i 0 h3, .row .i 0 h4]⟩) []) ⟨[(1, .one (.p 0 0)), (2, .one (.p 1 0)), (4, .one (.i n1))], [.box [.l .s h0, .l (.n 5) h02], .box [.o 2, .o 3, .o 4], .row .i 0 h2, .row .i 0 h3, .row .i 0 h4]⟩) = dd4 G n R ⟨[(1, .one (.p 0 0)), (2, .one (.p 1 0)), (4, .one (.i n1))], [.box [.l .s h0, .l (.n 5) h02], .box [.o 2, .o 3, .o 4], .row .i 0 h2, .row .i 0 h3, .row .i 0 h4]⟩ K := by kernel_rfl
theorem s4_1 (G : Gs) (n : Nat) (R : Type) (n1 : Int) (h0 : List ByteArray) (h02 : List Sb) (h2 : List Int) (h3 : List Int) (h4 : List Int) (K : Kt R) : (fun st1 : St => drawD tb (orcOf (ents G)) an.nt (opsOf (nthC [1, 1, 1, 0] (bodyOf Try.f31))) (maskH [0, 1, 2, 3, 4] st1.H) [2, 3, 7, 4, 5, 0, 1, 6, 8] [3, 7, 5, 8] [] [] [2, 3, 7, 4, 5, 0, 1, 6, 8] st1.L st1.H st1.H fun L H => outK an.refs ⟨[1, 2, 4, 5], [2, 3], []⟩ K .normal ⟨L, H⟩) (fzIds (slotRows (St.L ⟨[(1, .one (.p 0 0)), (2, .one (.p 1 0)), (4, .one (.i n1))], [.box [.l .s h0, .l (.n 5) h02], .box [.o 2, .o 3, .o 4], .row .i 0 h2, .row .i 0 h3, .row .i 0 h4]⟩) (St.H ⟨[(1, .one (.p 0 0)), (2, .one (.p 1 0)), (4, .one (.i n1))], [.box [.l .s h0, .l (.n 5) h02], .box [.o 2, .o 3, .o 4], .row .i 0 h2, .row .i 0 h3, .row .i 0 h4]⟩) []) ⟨[(1, .one (.p 0 0)), (2, .one (.p 1 0)), (4, .one (.i n1))], [.box [.l .s h0, .l (.n 5) h02], .box [.o 2, .o 3, .o 4], .row .i 0 h2, .row .i 0 h3, .row .i 0 h4]⟩) = dd4 G n R ⟨[(1, .one (.p 0 0)), (2, .one (.p 1 0)), (4, .one (.i n1))], [.box [.l .s h0, .l (.n 5) h02], .box [.o 2, .o 3, .o 4], .row .i 0 h2, .row .i 0 h3, .row .i 0 h4]⟩ K := by kernel_rfl
theorem s4_2 (G : Gs) (n : Nat) (R : Type) (n1 : Int) (h0 : List ByteArray) (h02 : List Sb) (h2 : List Int) (h3 : List Int) (h4 : List Int) (K : Kt R) : (fun st1 : St => drawD tb (orcOf (ents G)) an.nt (opsOf (nthC [1, 1, 1, 0] (bodyOf Try.f31))) (maskH [0, 1, 2, 3, 4] st1.H) [4, 5, 2, 3, 7, 0, 1, 6, 8] [5, 3, 7, 8] [] [] [4, 5, 2, 3, 7, 0, 1, 6, 8] st1.L st1.H st1.H fun L H => outK an.refs ⟨[1, 2, 4, 5], [2, 3], []⟩ K .normal ⟨L, H⟩) (fzIds (slotRows (St.L ⟨[(1, .one (.p 0 0)), (2, .one (.p 1 0)), (4, .one (.i n1))], [.box [.l .s h0, .l (.n 5) h02], .box [.o 2, .o 3, .o 4], .row .i 0 h2, .row .i 0 h3, .row .i 0 h4]⟩) (St.H ⟨[(1, .one (.p 0 0)), (2, .one (.p 1 0)), (4, .one (.i n1))], [.box [.l .s h0, .l (.n 5) h02], .box [.o 2, .o 3, .o 4], .row .i 0 h2, .row .i 0 h3, .row .i 0 h4]⟩) []) ⟨[(1, .one (.p 0 0)), (2, .one (.p 1 0)), (4, .one (.i n1))], [.box [.l .s h0, .l (.n 5) h02], .box [.o 2, .o 3, .o 4], .row .i 0 h2, .row .i 0 h3, .row .i 0 h4]⟩) = d4_2 G n n1 h0 h02 h2 h3 h4 (fun n1 h0 h02 h2 h3 h4 h5 h6 h7 => K .normal ⟨[(1, .one (.p 0 0)), (2, .one (.p 1 0)), (4, .one (.i n1)), (5, .one (.p 5 0))], [.box [.l .s h0, .l (.n 5) h02], .box [.o 2, .o 3, .o 4], .row .i 0 h2, .row .i 0 h3, .row .i 0 h4, .box [.l .i h5, .o 6, .o 7], .row .i 0 h6, .row .i 0 h7]⟩) := by kernel_rfl
theorem s4_3 (G : Gs) (n : Nat) (R : Type) (n1 : Int) (h0 : List ByteArray) (h02 : List Sb) (h2 : List Int) (h3 : List Int) (h4 : List Int) (K : Kt R) : (fun st1 : St => drawD tb (orcOf (ents G)) an.nt (opsOf (nthC [1, 1, 1, 0] (bodyOf Try.f31))) (maskH [0, 1, 2, 3, 4] st1.H) [4, 5, 7, 2, 3, 0, 1, 6, 8] [5, 7, 3, 8] [] [] [4, 5, 7, 2, 3, 0, 1, 6, 8] st1.L st1.H st1.H fun L H => outK an.refs ⟨[1, 2, 4, 5], [2, 3], []⟩ K .normal ⟨L, H⟩) (fzIds (slotRows (St.L ⟨[(1, .one (.p 0 0)), (2, .one (.p 1 0)), (4, .one (.i n1))], [.box [.l .s h0, .l (.n 5) h02], .box [.o 2, .o 3, .o 4], .row .i 0 h2, .row .i 0 h3, .row .i 0 h4]⟩) (St.H ⟨[(1, .one (.p 0 0)), (2, .one (.p 1 0)), (4, .one (.i n1))], [.box [.l .s h0, .l (.n 5) h02], .box [.o 2, .o 3, .o 4], .row .i 0 h2, .row .i 0 h3, .row .i 0 h4]⟩) []) ⟨[(1, .one (.p 0 0)), (2, .one (.p 1 0)), (4, .one (.i n1))], [.box [.l .s h0, .l (.n 5) h02], .box [.o 2, .o 3, .o 4], .row .i 0 h2, .row .i 0 h3, .row .i 0 h4]⟩) = d4_3 G n n1 h0 h02 h2 h3 h4 (fun n1 h0 h02 h2 h3 h4 h5 h6 h7 => K .normal ⟨[(1, .one (.p 0 0)), (2, .one (.p 1 0)), (4, .one (.i n1)), (5, .one (.p 5 0))], [.box [.l .s h0, .l (.n 5) h02], .box [.o 2, .o 3, .o 4], .row .i 0 h2, .row .i 0 h3, .row .i 0 h4, .box [.l .i h5, .o 6, .o 7], .row .i 0 h6, .row .i 0 h7]⟩) := by kernel_rfl
theorem s4_4 (G : Gs) (n : Nat) (R : Type) (n1 : Int) (h0 : List ByteArray) (h02 : List Sb) (h2 : List Int) (h3 : List Int) (h4 : List Int) (K : Kt R) : (fun st1 : St => drawD tb (orcOf (ents G)) an.nt (opsOf (nthC [1, 1, 1, 0] (bodyOf Try.f31))) (maskH [0, 1, 2, 3, 4] st1.H) [7, 2, 3, 4, 5, 0, 1, 6, 8] [7, 3, 5, 8] [] [] [7, 2, 3, 4, 5, 0, 1, 6, 8] st1.L st1.H st1.H fun L H => outK an.refs ⟨[1, 2, 4, 5], [2, 3], []⟩ K .normal ⟨L, H⟩) (fzIds (slotRows (St.L ⟨[(1, .one (.p 0 0)), (2, .one (.p 1 0)), (4, .one (.i n1))], [.box [.l .s h0, .l (.n 5) h02], .box [.o 2, .o 3, .o 4], .row .i 0 h2, .row .i 0 h3, .row .i 0 h4]⟩) (St.H ⟨[(1, .one (.p 0 0)), (2, .one (.p 1 0)), (4, .one (.i n1))], [.box [.l .s h0, .l (.n 5) h02], .box [.o 2, .o 3, .o 4], .row .i 0 h2, .row .i 0 h3, .row .i 0 h4]⟩) []) ⟨[(1, .one (.p 0 0)), (2, .one (.p 1 0)), (4, .one (.i n1))], [.box [.l .s h0, .l (.n 5) h02], .box [.o 2, .o 3, .o 4], .row .i 0 h2, .row .i 0 h3, .row .i 0 h4]⟩) = dd4 G n R ⟨[(1, .one (.p 0 0)), (2, .one (.p 1 0)), (4, .one (.i n1))], [.box [.l .s h0, .l (.n 5) h02], .box [.o 2, .o 3, .o 4], .row .i 0 h2, .row .i 0 h3, .row .i 0 h4]⟩ K := by kernel_rfl
theorem s4_5 (G : Gs) (n : Nat) (R : Type) (n1 : Int) (h0 : List ByteArray) (h02 : List Sb) (h2 : List Int) (h3 : List Int) (h4 : List Int) (K : Kt R) : (fun st1 : St => drawD tb (orcOf (ents G)) an.nt (opsOf (nthC [1, 1, 1, 0] (bodyOf Try.f31))) (maskH [0, 1, 2, 3, 4] st1.H) [7, 4, 5, 2, 3, 0, 1, 6, 8] [7, 5, 3, 8] [] [] [7, 4, 5, 2, 3, 0, 1, 6, 8] st1.L st1.H st1.H fun L H => outK an.refs ⟨[1, 2, 4, 5], [2, 3], []⟩ K .normal ⟨L, H⟩) (fzIds (slotRows (St.L ⟨[(1, .one (.p 0 0)), (2, .one (.p 1 0)), (4, .one (.i n1))], [.box [.l .s h0, .l (.n 5) h02], .box [.o 2, .o 3, .o 4], .row .i 0 h2, .row .i 0 h3, .row .i 0 h4]⟩) (St.H ⟨[(1, .one (.p 0 0)), (2, .one (.p 1 0)), (4, .one (.i n1))], [.box [.l .s h0, .l (.n 5) h02], .box [.o 2, .o 3, .o 4], .row .i 0 h2, .row .i 0 h3, .row .i 0 h4]⟩) []) ⟨[(1, .one (.p 0 0)), (2, .one (.p 1 0)), (4, .one (.i n1))], [.box [.l .s h0, .l (.n 5) h02], .box [.o 2, .o 3, .o 4], .row .i 0 h2, .row .i 0 h3, .row .i 0 h4]⟩) = d4_5 G n n1 h0 h02 h2 h3 h4 (fun n1 h0 h02 h2 h3 h4 h5 h6 h7 => K .normal ⟨[(1, .one (.p 0 0)), (2, .one (.p 1 0)), (4, .one (.i n1)), (5, .one (.p 5 0))], [.box [.l .s h0, .l (.n 5) h02], .box [.o 2, .o 3, .o 4], .row .i 0 h2, .row .i 0 h3, .row .i 0 h4, .box [.l .i h5, .o 6, .o 7], .row .i 0 h6, .row .i 0 h7]⟩) := by kernel_rfl
theorem pd4 {G : Gs} (hG : AllE Try.prog (ents G)) {n : Nat} : PieceOK Try.prog an (nthC [1, 1, 1, 0] (bodyOf Try.f31)) (dd4 G n) := by
  have hc : nthC [1, 1, 1, 0] (bodyOf Try.f31) = .region 4 (opsOf (nthC [1, 1, 1, 0] (bodyOf Try.f31))) true := by kernel_rfl
  rw [hc]
  refine draw_piece mixed tb_ok (orc_ok hG) (o := ⟨[1, 2, 4, 5], [2, 3], []⟩) (d := ⟨[([2, 3, 4, 5, 7, 0, 1, 6, 8], [3, 5, 7, 8], []), ([2, 3, 7, 4, 5, 0, 1, 6, 8], [3, 7, 5, 8], []), ([4, 5, 2, 3, 7, 0, 1, 6, 8], [5, 3, 7, 8], []), ([4, 5, 7, 2, 3, 0, 1, 6, 8], [5, 7, 3, 8], []), ([7, 2, 3, 4, 5, 0, 1, 6, 8], [7, 3, 5, 8], []), ([7, 4, 5, 2, 3, 0, 1, 6, 8], [7, 5, 3, 8], [])], [3, 5, 7, 8], [], [0, 1, 2, 3, 4], [1, 2, 4]⟩) (by kernel_rfl) (fun p hp R st K r h => ?_)
  have e := h
  unfold dd4 at e
  split at e
  · rename_i x0 x1 x2 x3 x4 x5; simp only [List.mem_cons, List.not_mem_nil, or_false] at hp
    rcases hp with rfl | rfl | rfl | rfl | rfl | rfl
    · exact (s4_0 G n R x0 x1 x2 x3 x4 x5 K).trans h
    · exact (s4_1 G n R x0 x1 x2 x3 x4 x5 K).trans h
    · exact ((s4_2 G n R x0 x1 x2 x3 x4 x5 K).trans (e4_2 G n x0 x1 x2 x3 x4 x5 _)).trans h
    · exact ((s4_3 G n R x0 x1 x2 x3 x4 x5 K).trans (e4_3 G n x0 x1 x2 x3 x4 x5 _)).trans h
    · exact (s4_4 G n R x0 x1 x2 x3 x4 x5 K).trans h
    · exact ((s4_5 G n R x0 x1 x2 x3 x4 x5 K).trans (e4_5 G n x0 x1 x2 x3 x4 x5 _)).trans h
  · cases e
theorem s9 (G : Gs) (n m : Nat) (R : Type) (n1 : Int) (i : Int) (t28 : List Int) (t29 : Int) (t30 : Int) (t36 : List Int) (t37 : Int) (t38 : Int) (h0 : List ByteArray) (h02 : List Sb) (h2 : List Int) (h3 : List Int) (h4 : List Int) (h5 : List Int) (h6 : List Int) (h7 : List Int) (K : Kt R) : den tb (orcOf (ents G)) (pc G n) an (nthC [1, 1, 1, 1, 0, 1, 0, 0, 1, 1, 0, 0, 1, 0, 1, 0, 0] (bodyOf Try.f31)) ⟨[(1, .one (.p 0 0)), (2, .one (.p 1 0)), (4, .one (.i n1)), (5, .one (.p 5 0)), (6, .one (.i i)), (28, .one (.l .i t28)), (29, .one (.i t29)), (30, .one (.i t30)), (36, .one (.l .i t36)), (37, .one (.i t37)), (38, .one (.i t38))], [.box [.l .s h0, .l (.n 5) h02], .box [.o 2, .o 3, .o 4], .row .i 0 h2, .row .i 0 h3, .row .i 0 h4, .box [.l .i h5, .o 6, .o 7], .row .i 0 h6, .row .i 0 h7]⟩ (roundK an.refs [1, 2, 4, 5, 6, 28, 29, 30, 36, 37, 38] ⟨[1, 2, 4, 5, 6, 28, 29, 30], [2, 3], [(0, [1, 2, 4, 5]), (1, [1, 2, 4, 5, 28, 29, 30]), (2, [1, 2, 4, 5, 6, 28, 29, 30])]⟩ (fun st => dl9 G n m R st K) K) = dl9 G n (m + 1) R ⟨[(1, .one (.p 0 0)), (2, .one (.p 1 0)), (4, .one (.i n1)), (5, .one (.p 5 0)), (6, .one (.i i)), (28, .one (.l .i t28)), (29, .one (.i t29)), (30, .one (.i t30)), (36, .one (.l .i t36)), (37, .one (.i t37)), (38, .one (.i t38))], [.box [.l .s h0, .l (.n 5) h02], .box [.o 2, .o 3, .o 4], .row .i 0 h2, .row .i 0 h3, .row .i 0 h4, .box [.l .i h5, .o 6, .o 7], .row .i 0 h6, .row .i 0 h7]⟩ K := by kernel_rfl
theorem pl9 {G : Gs} (hG : AllE Try.prog (ents G)) (n : Nat) : ∀ m, PieceOK Try.prog an (.loop (nthC [1, 1, 1, 1, 0, 1, 0, 0, 1, 1, 0, 0, 1, 0, 1, 0, 0] (bodyOf Try.f31))) (dl9 G n m) := by
  refine loop_piece mixed tb_ok (orc_ok hG) (pc := pc G n) (lv := [1, 2, 4, 5, 6, 28, 29, 30, 36, 37, 38]) (o := ⟨[1, 2, 4, 5, 6, 28, 29, 30], [2, 3], [(0, [1, 2, 4, 5]), (1, [1, 2, 4, 5, 28, 29, 30]), (2, [1, 2, 4, 5, 6, 28, 29, 30])]⟩) (by
    have h : pieces an (nthC [1, 1, 1, 1, 0, 1, 0, 0, 1, 1, 0, 0, 1, 0, 1, 0, 0] (bodyOf Try.f31)) = [] := by kernel_rfl
    rw [h]
    exact trivial) (fun R st K => ?_) (fun m R st K r h => ?_)
  · unfold dl9; split <;> rfl
  · have e := h
    unfold dl9 at e
    split at e
    · rename_i x0 x1 x2 x3 x4 x5 x6 x7 x8 x9 x10 x11 x12 x13 x14 x15; exact (s9 G n m R x0 x1 x2 x3 x4 x5 x6 x7 x8 x9 x10 x11 x12 x13 x14 x15 K).trans h
    · cases e
theorem s6 (G : Gs) (n m : Nat) (R : Type) (n1 : Int) (t28 : List Int) (t29 : Int) (t30 : Int) (h0 : List ByteArray) (h02 : List Sb) (h2 : List Int) (h3 : List Int) (h4 : List Int) (h5 : List Int) (h6 : List Int) (h7 : List Int) (K : Kt R) : den tb (orcOf (ents G)) (pc G n) an (nthC [1, 1, 1, 1, 0, 1, 0, 0] (bodyOf Try.f31)) ⟨[(1, .one (.p 0 0)), (2, .one (.p 1 0)), (4, .one (.i n1)), (5, .one (.p 5 0)), (28, .one (.l .i t28)), (29, .one (.i t29)), (30, .one (.i t30))], [.box [.l .s h0, .l (.n 5) h02], .box [.o 2, .o 3, .o 4], .row .i 0 h2, .row .i 0 h3, .row .i 0 h4, .box [.l .i h5, .o 6, .o 7], .row .i 0 h6, .row .i 0 h7]⟩ (roundK an.refs [1, 2, 4, 5, 28, 29, 30] ⟨[1, 2, 4, 5], [2, 3], [(0, [1, 2, 4, 5])]⟩ (fun st => dl6 G n m R st K) K) = dl6 G n (m + 1) R ⟨[(1, .one (.p 0 0)), (2, .one (.p 1 0)), (4, .one (.i n1)), (5, .one (.p 5 0)), (28, .one (.l .i t28)), (29, .one (.i t29)), (30, .one (.i t30))], [.box [.l .s h0, .l (.n 5) h02], .box [.o 2, .o 3, .o 4], .row .i 0 h2, .row .i 0 h3, .row .i 0 h4, .box [.l .i h5, .o 6, .o 7], .row .i 0 h6, .row .i 0 h7]⟩ K := by kernel_rfl
theorem pl6 {G : Gs} (hG : AllE Try.prog (ents G)) (n : Nat) : ∀ m, PieceOK Try.prog an (.loop (nthC [1, 1, 1, 1, 0, 1, 0, 0] (bodyOf Try.f31))) (dl6 G n m) := by
  refine loop_piece mixed tb_ok (orc_ok hG) (pc := pc G n) (lv := [1, 2, 4, 5, 28, 29, 30]) (o := ⟨[1, 2, 4, 5], [2, 3], [(0, [1, 2, 4, 5])]⟩) (by
    have h : pieces an (nthC [1, 1, 1, 1, 0, 1, 0, 0] (bodyOf Try.f31)) = [(1, 9, .loop (nthC [1, 1, 1, 1, 0, 1, 0, 0, 1, 1, 0, 0, 1, 0, 1, 0, 0] (bodyOf Try.f31)))] := by kernel_rfl
    rw [h]
    exact ⟨pl9 hG n n, trivial⟩) (fun R st K => ?_) (fun m R st K r h => ?_)
  · unfold dl6; split <;> rfl
  · have e := h
    unfold dl6 at e
    split at e
    · rename_i x0 x1 x2 x3 x4 x5 x6 x7 x8 x9 x10 x11; exact (s6 G n m R x0 x1 x2 x3 x4 x5 x6 x7 x8 x9 x10 x11 K).trans h
    · cases e
theorem s18 (G : Gs) (n m : Nat) (R : Type) (t61 : Int) (t62 : Int) (t65 : List Sb) (t66 : Int) (t67 : Int) (h0 : List ByteArray) (h02 : List Sb) (h2 : List Int) (h3 : List Int) (h4 : List Int) (h5 : List Int) (h6 : List Int) (h7 : List Int) (K : Kt R) : den tb (orcOf (ents G)) (pc G n) an (nthC [1, 1, 1, 1, 1, 0, 1, 0, 0, 1, 1, 0, 0, 1, 0, 0] (bodyOf Try.f31)) ⟨[(1, .one (.p 0 0)), (2, .one (.p 1 0)), (5, .one (.p 5 0)), (61, .one (.i t61)), (62, .one (.i t62)), (65, .one (.l (.n 5) t65)), (66, .one (.i t66)), (67, .one (.i t67))], [.box [.l .s h0, .l (.n 5) h02], .box [.o 2, .o 3, .o 4], .row .i 0 h2, .row .i 0 h3, .row .i 0 h4, .box [.l .i h5, .o 6, .o 7], .row .i 0 h6, .row .i 0 h7]⟩ (roundK an.refs [1, 2, 5, 61, 62, 65, 66, 67] ⟨[1, 2, 5, 61, 62], [2, 3], [(4, [2, 5]), (5, [1, 2, 5, 61, 62]), (6, [1, 2, 5, 61, 62])]⟩ (fun st => dl18 G n m R st K) K) = dl18 G n (m + 1) R ⟨[(1, .one (.p 0 0)), (2, .one (.p 1 0)), (5, .one (.p 5 0)), (61, .one (.i t61)), (62, .one (.i t62)), (65, .one (.l (.n 5) t65)), (66, .one (.i t66)), (67, .one (.i t67))], [.box [.l .s h0, .l (.n 5) h02], .box [.o 2, .o 3, .o 4], .row .i 0 h2, .row .i 0 h3, .row .i 0 h4, .box [.l .i h5, .o 6, .o 7], .row .i 0 h6, .row .i 0 h7]⟩ K := by kernel_rfl
theorem pl18 {G : Gs} (hG : AllE Try.prog (ents G)) (n : Nat) : ∀ m, PieceOK Try.prog an (.loop (nthC [1, 1, 1, 1, 1, 0, 1, 0, 0, 1, 1, 0, 0, 1, 0, 0] (bodyOf Try.f31))) (dl18 G n m) := by
  refine loop_piece mixed tb_ok (orc_ok hG) (pc := pc G n) (lv := [1, 2, 5, 61, 62, 65, 66, 67]) (o := ⟨[1, 2, 5, 61, 62], [2, 3], [(4, [2, 5]), (5, [1, 2, 5, 61, 62]), (6, [1, 2, 5, 61, 62])]⟩) (by
    have h : pieces an (nthC [1, 1, 1, 1, 1, 0, 1, 0, 0, 1, 1, 0, 0, 1, 0, 0] (bodyOf Try.f31)) = [] := by kernel_rfl
    rw [h]
    exact trivial) (fun R st K => ?_) (fun m R st K r h => ?_)
  · unfold dl18; split <;> rfl
  · have e := h
    unfold dl18 at e
    split at e
    · rename_i x0 x1 x2 x3 x4 x5 x6 x7 x8 x9 x10 x11 x12; exact (s18 G n m R x0 x1 x2 x3 x4 x5 x6 x7 x8 x9 x10 x11 x12 K).trans h
    · cases e
theorem s16 (G : Gs) (n m : Nat) (R : Type) (t61 : Int) (t62 : Int) (h0 : List ByteArray) (h02 : List Sb) (h2 : List Int) (h3 : List Int) (h4 : List Int) (h5 : List Int) (h6 : List Int) (h7 : List Int) (K : Kt R) : den tb (orcOf (ents G)) (pc G n) an (nthC [1, 1, 1, 1, 1, 0, 1, 0, 0] (bodyOf Try.f31)) ⟨[(1, .one (.p 0 0)), (2, .one (.p 1 0)), (5, .one (.p 5 0)), (61, .one (.i t61)), (62, .one (.i t62))], [.box [.l .s h0, .l (.n 5) h02], .box [.o 2, .o 3, .o 4], .row .i 0 h2, .row .i 0 h3, .row .i 0 h4, .box [.l .i h5, .o 6, .o 7], .row .i 0 h6, .row .i 0 h7]⟩ (roundK an.refs [1, 2, 5, 61, 62] ⟨[2, 5], [2, 3], [(4, [2, 5])]⟩ (fun st => dl16 G n m R st K) K) = dl16 G n (m + 1) R ⟨[(1, .one (.p 0 0)), (2, .one (.p 1 0)), (5, .one (.p 5 0)), (61, .one (.i t61)), (62, .one (.i t62))], [.box [.l .s h0, .l (.n 5) h02], .box [.o 2, .o 3, .o 4], .row .i 0 h2, .row .i 0 h3, .row .i 0 h4, .box [.l .i h5, .o 6, .o 7], .row .i 0 h6, .row .i 0 h7]⟩ K := by kernel_rfl
theorem pl16 {G : Gs} (hG : AllE Try.prog (ents G)) (n : Nat) : ∀ m, PieceOK Try.prog an (.loop (nthC [1, 1, 1, 1, 1, 0, 1, 0, 0] (bodyOf Try.f31))) (dl16 G n m) := by
  refine loop_piece mixed tb_ok (orc_ok hG) (pc := pc G n) (lv := [1, 2, 5, 61, 62]) (o := ⟨[2, 5], [2, 3], [(4, [2, 5])]⟩) (by
    have h : pieces an (nthC [1, 1, 1, 1, 1, 0, 1, 0, 0] (bodyOf Try.f31)) = [(1, 18, .loop (nthC [1, 1, 1, 1, 1, 0, 1, 0, 0, 1, 1, 0, 0, 1, 0, 0] (bodyOf Try.f31)))] := by kernel_rfl
    rw [h]
    exact ⟨pl18 hG n n, trivial⟩) (fun R st K => ?_) (fun m R st K r h => ?_)
  · unfold dl16; split <;> rfl
  · have e := h
    unfold dl16 at e
    split at e
    · rename_i x0 x1 x2 x3 x4 x5 x6 x7 x8 x9; exact (s16 G n m R x0 x1 x2 x3 x4 x5 x6 x7 x8 x9 K).trans h
    · cases e
theorem allp {G : Gs} (hG : AllE Try.prog (ents G)) (n : Nat) : AllP Try.prog an (pc G n) (pieces an (bodyOf Try.f31)) := by
    have h : pieces an (bodyOf Try.f31) = [(2, 4, nthC [1, 1, 1, 0] (bodyOf Try.f31)), (1, 6, .loop (nthC [1, 1, 1, 1, 0, 1, 0, 0] (bodyOf Try.f31))), (1, 16, .loop (nthC [1, 1, 1, 1, 1, 0, 1, 0, 0] (bodyOf Try.f31)))] := by kernel_rfl
    rw [h]
    exact ⟨pd4 hG, ⟨pl6 hG n n, ⟨pl16 hG n n, trivial⟩⟩⟩
/-- What the function computes. -/
noncomputable def Does (G : Gs) (s : So) (r : Od × Bool) : Prop := ∃ n, main (R := AT × List Ob) G n s (fun r0 r1 => some (.tup [.agg [.l .i (Od.above r0), .l .i (Od.below r0), .l .i (Od.kind r0)], .one (.b r1)], [])) = some (.tup [.agg [.l .i (Od.above r.1), .l .i (Od.below r.1), .l .i (Od.kind r.1)], .one (.b r.2)], [])
theorem eq (G : Gs) (n : Nat) (s : So) : den tb (orcOf (ents G)) (pc G n) an (bodyOf Try.f31) ⟨argsD 0 [.agg [.l .s (So.names s), .l (.n 5) (So.subs s)]], []⟩ (atEnd (finF tb an [.cell 2 69, .tmp 3])) = main (R := AT × List Ob) G n s (fun r0 r1 => some (.tup [.agg [.l .i (Od.above r0), .l .i (Od.below r0), .l .i (Od.kind r0)], .one (.b r1)], [])) := by kernel_rfl
theorem ok {G : Gs} (hG : AllE Try.prog (ents G)) {g : So → Option (Od × Bool)} (hg : ∀ s r, g s = some r → Does G s r) : EntOK Try.prog (ent g) := fun R xs H K r hc => by
  simp only [ent] at hc
  split at hc
  · rename_i a a2
    obtain ⟨r, q1, q2⟩ := bind_some hc
    obtain ⟨n, q3⟩ := hg (So.mk a a2) _ q1
    exact ⟨_, _, q2, fn_of_den (pc := pc G n) (an := an) (xs := [.agg [.l .s a, .l (.n 5) a2]]) (H := []) (fin := finF tb an [.cell 2 69, .tmp 3]) mixed tb_ok (orc_ok hG) (fn := Try.f31) (c := bodyOf Try.f31) Try.func31 (by kernel_rfl) (by kernel_rfl) (by kernel_rfl) (by kernel_rfl) (by kernel_rfl) (rs := [.cell 2 69, .tmp 3]) (by kernel_rfl) (.inl rfl) (allp hG n) ((eq G n (So.mk a a2)).trans q3)⟩
  · cases hc
end i_newOrder
namespace i_order_has
structure Gs where
  none_ : Unit
noncomputable def ents (_ : Gs) : List Ent := []
noncomputable def main {R : Type} (G : Gs) (n : Nat) (x : Od) (k : Int) (K : Bool → Option R) : Option R :=
  bif decide (0 ≤ k) then
    (K (decide (k < (List.length (Od.above x) : Int))))
  else
    K false
noncomputable def pc (_ : Gs) (_ : Nat) : Pcs := ⟨fun _ _ _ _ => none, fun _ _ _ _ => none, fun _ _ _ _ => none⟩
noncomputable def an : Ann := ⟨14, 0, [], [], [4], []⟩
theorem allp {G : Gs} (hG : AllE Try.prog (ents G)) (n : Nat) : AllP Try.prog an (pc G n) (pieces an (bodyOf Try.f50)) := by
    have h : pieces an (bodyOf Try.f50) = [] := by kernel_rfl
    rw [h]
    exact trivial
/-- What the function computes. -/
noncomputable def Does (G : Gs) (x : Od) (k : Int) (r : Bool) : Prop := ∃ n, main (R := AT × List Ob) G n x k (fun r0 => some (.one (.b r0), [])) = some (.one (.b r), [])
theorem eq (G : Gs) (n : Nat) (x : Od) (k : Int) : den tb (orcOf (ents G)) (pc G n) an (bodyOf Try.f50) ⟨argsD 0 [.agg [.l .i (Od.above x), .l .i (Od.below x), .l .i (Od.kind x)], .one (.i k)], []⟩ (atEnd (finF tb an [.tmp 4])) = main (R := AT × List Ob) G n x k (fun r0 => some (.one (.b r0), [])) := by kernel_rfl
theorem ok {G : Gs} (hG : AllE Try.prog (ents G)) {g : Od → Int → Option (Bool)} (hg : ∀ x k r, g x k = some r → Does G x k r) : EntOK Try.prog (ent g) := fun R xs H K r hc => by
  simp only [ent] at hc
  split at hc
  · rename_i a a2 a3 a4
    obtain ⟨r, q1, q2⟩ := bind_some hc
    obtain ⟨n, q3⟩ := hg (Od.mk a a2 a3) a4 _ q1
    exact ⟨_, _, q2, fn_of_den (pc := pc G n) (an := an) (xs := [.agg [.l .i a, .l .i a2, .l .i a3], .one (.i a4)]) (H := []) (fin := finF tb an [.tmp 4]) mixed tb_ok (orc_ok hG) (fn := Try.f50) (c := bodyOf Try.f50) Try.func50 (by kernel_rfl) (by kernel_rfl) (by kernel_rfl) (by kernel_rfl) (by kernel_rfl) (rs := [.tmp 4]) (by kernel_rfl) (.inl rfl) (allp hG n) ((eq G n (Od.mk a a2 a3) a4).trans q3)⟩
  · cases hc
end i_order_has
namespace i_declsOK
structure Gs where
  i_order_has : Od → Int → Option (Bool)
noncomputable def ents (G : Gs) : List Ent := [i_order_has.ent G.i_order_has]
noncomputable def b7 {R : Type} (G : Gs) (n : Nat) (t41 : List Int) (t42 : Int) (t43 : Int) (h0 : List Int) (h02 : List Int) (h03 : List Int) (h1 : ByteArray) (h12 : List Dc) (h13 : Bool) (h14 : Bool) (h15 : Int) (h2 : List Int) (h22 : Int) (nx : List Int → Int → Int → List Int → List Int → List Int → ByteArray → List Dc → Bool → Bool → Int → List Int → Int → Option R) (k0 : Bool → Option R) (k1 : List Int → List Int → List Int → ByteArray → List Dc → Bool → Bool → Int → List Int → Int → Option R) : Option R :=
  bif decide (t43 < t42) then
    (
    Option.bind (ix t41 t43) fun e =>
    Option.bind (G.i_order_has (Od.mk h0 h02 h03) e) fun r =>
    bif !r then
      (k0 false)
    else
      nx t41 t42 (wr (t43 + 1)) h0 h02 h03 h1 h12 h13 h14 h15 h2 h22
    )
  else
    k1 h0 h02 h03 h1 h12 h13 h14 h15 h2 h22
noncomputable def l7 {R : Type} (G : Gs) (n m : Nat) (t41 : List Int) (t42 : Int) (t43 : Int) (h0 : List Int) (h02 : List Int) (h03 : List Int) (h1 : ByteArray) (h12 : List Dc) (h13 : Bool) (h14 : Bool) (h15 : Int) (h2 : List Int) (h22 : Int) (k0 : Bool → Option R) (k1 : List Int → List Int → List Int → ByteArray → List Dc → Bool → Bool → Int → List Int → Int → Option R) : Option R := iter (fun (v : List Int × Int × Int × List Int × List Int × List Int × ByteArray × List Dc × Bool × Bool × Int × List Int × Int) nx => b7 G n v.1 v.2.1 v.2.2.1 v.2.2.2.1 v.2.2.2.2.1 v.2.2.2.2.2.1 v.2.2.2.2.2.2.1 v.2.2.2.2.2.2.2.1 v.2.2.2.2.2.2.2.2.1 v.2.2.2.2.2.2.2.2.2.1 v.2.2.2.2.2.2.2.2.2.2.1 v.2.2.2.2.2.2.2.2.2.2.2.1 v.2.2.2.2.2.2.2.2.2.2.2.2 (fun y0 y1 y2 y3 y4 y5 y6 y7 y8 y9 y10 y11 y12 => nx (y0, y1, y2, y3, y4, y5, y6, y7, y8, y9, y10, y11, y12)) k0 k1) m (t41, t42, t43, h0, h02, h03, h1, h12, h13, h14, h15, h2, h22)
noncomputable def b18 {R : Type} (G : Gs) (n : Nat) (t53 : List Dc) (t54 : Int) (t55 : Int) (t89 : List Int) (t90 : Int) (t91 : Int) (h0 : List Int) (h02 : List Int) (h03 : List Int) (h1 : List Int) (h12 : Int) (nx : List Dc → Int → Int → List Int → Int → Int → List Int → List Int → List Int → List Int → Int → Option R) (k0 : Bool → Option R) (k1 : List Dc → Int → Int → List Int → List Int → List Int → List Int → Int → Option R) : Option R :=
  bif decide (t91 < t90) then
    (
    Option.bind (ix t89 t91) fun e =>
    Option.bind (G.i_order_has (Od.mk h0 h02 h03) e) fun r2 =>
    bif !r2 then
      (k0 false)
    else
      Option.bind (ix h03 e) fun e3 =>
      Option.bind (ix h1 t91) fun e5 =>
      Option.bind (ix h03 e5) fun e7 =>
      bif !decide (e3 = e7) then
        (k0 false)
      else
        nx t53 t54 t55 t89 t90 (wr (t91 + 1)) h0 h02 h03 h1 h12
    )
  else
    k1 t53 t54 t55 h0 h02 h03 h1 h12
noncomputable def l18 {R : Type} (G : Gs) (n m : Nat) (t53 : List Dc) (t54 : Int) (t55 : Int) (t89 : List Int) (t90 : Int) (t91 : Int) (h0 : List Int) (h02 : List Int) (h03 : List Int) (h1 : List Int) (h12 : Int) (k0 : Bool → Option R) (k1 : List Dc → Int → Int → List Int → List Int → List Int → List Int → Int → Option R) : Option R := iter (fun (v : List Dc × Int × Int × List Int × Int × Int × List Int × List Int × List Int × List Int × Int) nx => b18 G n v.1 v.2.1 v.2.2.1 v.2.2.2.1 v.2.2.2.2.1 v.2.2.2.2.2.1 v.2.2.2.2.2.2.1 v.2.2.2.2.2.2.2.1 v.2.2.2.2.2.2.2.2.1 v.2.2.2.2.2.2.2.2.2.1 v.2.2.2.2.2.2.2.2.2.2 (fun y0 y1 y2 y3 y4 y5 y6 y7 y8 y9 y10 => nx (y0, y1, y2, y3, y4, y5, y6, y7, y8, y9, y10)) k0 k1) m (t53, t54, t55, t89, t90, t91, h0, h02, h03, h1, h12)
noncomputable def b13 {R : Type} (G : Gs) (n : Nat) (t53 : List Dc) (t54 : Int) (t55 : Int) (h0 : List Int) (h02 : List Int) (h03 : List Int) (h1 : List Int) (h12 : Int) (nx : List Dc → Int → Int → List Int → List Int → List Int → List Int → Int → Option R) (k0 : Bool → Option R) (k1 : Option R) : Option R :=
  bif decide (t55 < t54) then
    (
    Option.bind (ix t53 t55) fun e =>
    bif !decide ((List.length (Dc.args e) : Int) = (List.length h1 : Int)) then
      (k0 false)
    else
      Option.bind (G.i_order_has (Od.mk h0 h02 h03) (Dc.result e)) fun r2 =>
      bif !r2 then
        (k0 false)
      else
        Option.bind (ix h03 (Dc.result e)) fun e3 =>
        Option.bind (ix h03 h12) fun e5 =>
        bif !decide (e3 = e5) then
          (k0 false)
        else
          l18 G n n t53 t54 t55 (Dc.args e) (List.length (Dc.args e) : Int) 0 h0 h02 h03 h1 h12
            (fun t4 => k0 t4)
            (fun t532 t542 t552 h04 h022 h032 h13 h122 => nx t532 t542 (wr (t552 + 1)) h04 h022 h032 h13 h122)
    )
  else
    k1
noncomputable def l13 {R : Type} (G : Gs) (n m : Nat) (t53 : List Dc) (t54 : Int) (t55 : Int) (h0 : List Int) (h02 : List Int) (h03 : List Int) (h1 : List Int) (h12 : Int) (k0 : Bool → Option R) (k1 : Option R) : Option R := iter (fun (v : List Dc × Int × Int × List Int × List Int × List Int × List Int × Int) nx => b13 G n v.1 v.2.1 v.2.2.1 v.2.2.2.1 v.2.2.2.2.1 v.2.2.2.2.2.1 v.2.2.2.2.2.2.1 v.2.2.2.2.2.2.2 (fun y0 y1 y2 y3 y4 y5 y6 y7 => nx (y0, y1, y2, y3, y4, y5, y6, y7)) k0 k1) m (t53, t54, t55, h0, h02, h03, h1, h12)
noncomputable def main {R : Type} (G : Gs) (n : Nat) (x : Od) (o : Opr) (K : Bool → Option R) : Option R :=
  bif decide ((List.length (Opr.decls o) : Int) < 1) then
    (K false)
  else
    bif decide (4 < (List.length (Opr.decls o) : Int)) then
      (K false)
    else
      Option.bind (ix (Opr.decls o) 0) fun e =>
      bif decide (3 < (List.length (Dc.args e) : Int)) then
        (K false)
      else
        Option.bind (ix (Opr.decls o) 0) fun e2 =>
        Option.bind (G.i_order_has x (Dc.result e2)) fun r =>
        bif !r then
          (K false)
        else
          l7 G n n (Dc.args e2) (List.length (Dc.args e2) : Int) 0 (Od.above x) (Od.below x) (Od.kind x) (Opr.name o) (Opr.decls o) (Opr.assoc o) (Opr.comm o) (Opr.unit o) (Dc.args e2) (Dc.result e2)
            (fun t4 => K t4)
            (fun h0 h02 h03 h1 h12 h13 h14 h15 h2 h22 =>
              l13 G n n h12 (List.length h12 : Int) 0 h0 h02 h03 h2 h22
                (fun t42 => K t42)
                ( K true)
            )
noncomputable def dl7 (G : Gs) (n m : Nat) (R : Type) (st : St) (K : Kt R) : Option R := match st with
  | ⟨[(2, .one (.p 0 0)), (3, .one (.p 1 0)), (5, .one (.p 2 0)), (41, .one (.l .i t41)), (42, .one (.i t42)), (43, .one (.i t43))], [.box [.l .i h0, .l .i h02, .l .i h03], .box [.s h1, .l (.n 7) h12, .b h13, .b h14, .i h15], .box [.l .i h2, .i h22]]⟩ => l7 G n m t41 t42 t43 h0 h02 h03 h1 h12 h13 h14 h15 h2 h22 (fun t4 => K .ret ⟨[(4, .one (.b t4))], []⟩) (fun h0 h02 h03 h1 h12 h13 h14 h15 h2 h22 => K (.exit 0) ⟨[(2, .one (.p 0 0)), (3, .one (.p 1 0)), (5, .one (.p 2 0))], [.box [.l .i h0, .l .i h02, .l .i h03], .box [.s h1, .l (.n 7) h12, .b h13, .b h14, .i h15], .box [.l .i h2, .i h22]]⟩)
  | _ => none
noncomputable def dl18 (G : Gs) (n m : Nat) (R : Type) (st : St) (K : Kt R) : Option R := match st with
  | ⟨[(2, .one (.p 0 0)), (5, .one (.p 1 0)), (53, .one (.l (.n 7) t53)), (54, .one (.i t54)), (55, .one (.i t55)), (89, .one (.l .i t89)), (90, .one (.i t90)), (91, .one (.i t91))], [.box [.l .i h0, .l .i h02, .l .i h03], .box [.l .i h1, .i h12]]⟩ => l18 G n m t53 t54 t55 t89 t90 t91 h0 h02 h03 h1 h12 (fun t4 => K .ret ⟨[(4, .one (.b t4))], []⟩) (fun t53 t54 t55 h0 h02 h03 h1 h12 => K (.exit 4) ⟨[(2, .one (.p 0 0)), (5, .one (.p 1 0)), (53, .one (.l (.n 7) t53)), (54, .one (.i t54)), (55, .one (.i t55))], [.box [.l .i h0, .l .i h02, .l .i h03], .box [.l .i h1, .i h12]]⟩)
  | _ => none
noncomputable def dl13 (G : Gs) (n m : Nat) (R : Type) (st : St) (K : Kt R) : Option R := match st with
  | ⟨[(2, .one (.p 0 0)), (5, .one (.p 1 0)), (53, .one (.l (.n 7) t53)), (54, .one (.i t54)), (55, .one (.i t55))], [.box [.l .i h0, .l .i h02, .l .i h03], .box [.l .i h1, .i h12]]⟩ => l13 G n m t53 t54 t55 h0 h02 h03 h1 h12 (fun t4 => K .ret ⟨[(4, .one (.b t4))], []⟩) (K (.exit 2) ⟨[], []⟩)
  | _ => none
noncomputable def pc (G : Gs) (n : Nat) : Pcs := ⟨fun R id st K => bif Nat.beq id 7 then dl7 G n n R st K else bif Nat.beq id 18 then dl18 G n n R st K else bif Nat.beq id 13 then dl13 G n n R st K else none, fun _ _ _ _ => none, fun _ _ _ _ => none⟩
noncomputable def an : Ann := ⟨119, 0, [(7, [2, 3, 5, 41, 42, 43]), (18, [2, 5, 53, 54, 55, 89, 90, 91]), (13, [2, 5, 53, 54, 55])], [], [4], [(15, ⟨[([0, 1, 2, 3, 4, 5, 6, 7, 8, 9, 10, 11, 12, 13, 14, 15, 16, 17, 18, 19, 20, 21, 22, 23, 24, 25, 26, 27, 28], [], [])], [], [], [0, 1, 2], []⟩), (20, ⟨[([0, 1, 2, 3, 4, 5, 6, 7, 8, 9, 10, 11, 12, 13, 14, 15, 16, 17, 18, 19, 20], [], [])], [], [], [0, 1], []⟩)]⟩
theorem s7 (G : Gs) (n m : Nat) (R : Type) (t41 : List Int) (t42 : Int) (t43 : Int) (h0 : List Int) (h02 : List Int) (h03 : List Int) (h1 : ByteArray) (h12 : List Dc) (h13 : Bool) (h14 : Bool) (h15 : Int) (h2 : List Int) (h22 : Int) (K : Kt R) : den tb (orcOf (ents G)) (pc G n) an (nthC [1, 1, 1, 1, 0, 1, 0, 0] (bodyOf Try.f33)) ⟨[(2, .one (.p 0 0)), (3, .one (.p 1 0)), (5, .one (.p 2 0)), (41, .one (.l .i t41)), (42, .one (.i t42)), (43, .one (.i t43))], [.box [.l .i h0, .l .i h02, .l .i h03], .box [.s h1, .l (.n 7) h12, .b h13, .b h14, .i h15], .box [.l .i h2, .i h22]]⟩ (roundK an.refs [2, 3, 5, 41, 42, 43] ⟨[2, 3, 5], [4], [(0, [2, 3, 5])]⟩ (fun st => dl7 G n m R st K) K) = dl7 G n (m + 1) R ⟨[(2, .one (.p 0 0)), (3, .one (.p 1 0)), (5, .one (.p 2 0)), (41, .one (.l .i t41)), (42, .one (.i t42)), (43, .one (.i t43))], [.box [.l .i h0, .l .i h02, .l .i h03], .box [.s h1, .l (.n 7) h12, .b h13, .b h14, .i h15], .box [.l .i h2, .i h22]]⟩ K := by kernel_rfl
theorem pl7 {G : Gs} (hG : AllE Try.prog (ents G)) (n : Nat) : ∀ m, PieceOK Try.prog an (.loop (nthC [1, 1, 1, 1, 0, 1, 0, 0] (bodyOf Try.f33))) (dl7 G n m) := by
  refine loop_piece mixed tb_ok (orc_ok hG) (pc := pc G n) (lv := [2, 3, 5, 41, 42, 43]) (o := ⟨[2, 3, 5], [4], [(0, [2, 3, 5])]⟩) (by
    have h : pieces an (nthC [1, 1, 1, 1, 0, 1, 0, 0] (bodyOf Try.f33)) = [] := by kernel_rfl
    rw [h]
    exact trivial) (fun R st K => ?_) (fun m R st K r h => ?_)
  · unfold dl7; split <;> rfl
  · have e := h
    unfold dl7 at e
    split at e
    · rename_i x0 x1 x2 x3 x4 x5 x6 x7 x8 x9 x10 x11 x12; exact (s7 G n m R x0 x1 x2 x3 x4 x5 x6 x7 x8 x9 x10 x11 x12 K).trans h
    · cases e
theorem s18 (G : Gs) (n m : Nat) (R : Type) (t53 : List Dc) (t54 : Int) (t55 : Int) (t89 : List Int) (t90 : Int) (t91 : Int) (h0 : List Int) (h02 : List Int) (h03 : List Int) (h1 : List Int) (h12 : Int) (K : Kt R) : den tb (orcOf (ents G)) (pc G n) an (nthC [1, 1, 1, 1, 1, 0, 1, 0, 0, 1, 1, 0, 0, 1, 1, 1, 0, 0] (bodyOf Try.f33)) ⟨[(2, .one (.p 0 0)), (5, .one (.p 1 0)), (53, .one (.l (.n 7) t53)), (54, .one (.i t54)), (55, .one (.i t55)), (89, .one (.l .i t89)), (90, .one (.i t90)), (91, .one (.i t91))], [.box [.l .i h0, .l .i h02, .l .i h03], .box [.l .i h1, .i h12]]⟩ (roundK an.refs [2, 5, 53, 54, 55, 89, 90, 91] ⟨[2, 5, 53, 54, 55], [4], [(2, []), (3, [2, 5, 53, 54, 55]), (4, [2, 5, 53, 54, 55])]⟩ (fun st => dl18 G n m R st K) K) = dl18 G n (m + 1) R ⟨[(2, .one (.p 0 0)), (5, .one (.p 1 0)), (53, .one (.l (.n 7) t53)), (54, .one (.i t54)), (55, .one (.i t55)), (89, .one (.l .i t89)), (90, .one (.i t90)), (91, .one (.i t91))], [.box [.l .i h0, .l .i h02, .l .i h03], .box [.l .i h1, .i h12]]⟩ K := by kernel_rfl
theorem pl18 {G : Gs} (hG : AllE Try.prog (ents G)) (n : Nat) : ∀ m, PieceOK Try.prog an (.loop (nthC [1, 1, 1, 1, 1, 0, 1, 0, 0, 1, 1, 0, 0, 1, 1, 1, 0, 0] (bodyOf Try.f33))) (dl18 G n m) := by
  refine loop_piece mixed tb_ok (orc_ok hG) (pc := pc G n) (lv := [2, 5, 53, 54, 55, 89, 90, 91]) (o := ⟨[2, 5, 53, 54, 55], [4], [(2, []), (3, [2, 5, 53, 54, 55]), (4, [2, 5, 53, 54, 55])]⟩) (by
    have h : pieces an (nthC [1, 1, 1, 1, 1, 0, 1, 0, 0, 1, 1, 0, 0, 1, 1, 1, 0, 0] (bodyOf Try.f33)) = [] := by kernel_rfl
    rw [h]
    exact trivial) (fun R st K => ?_) (fun m R st K r h => ?_)
  · unfold dl18; split <;> rfl
  · have e := h
    unfold dl18 at e
    split at e
    · rename_i x0 x1 x2 x3 x4 x5 x6 x7 x8 x9 x10; exact (s18 G n m R x0 x1 x2 x3 x4 x5 x6 x7 x8 x9 x10 K).trans h
    · cases e
theorem s13 (G : Gs) (n m : Nat) (R : Type) (t53 : List Dc) (t54 : Int) (t55 : Int) (h0 : List Int) (h02 : List Int) (h03 : List Int) (h1 : List Int) (h12 : Int) (K : Kt R) : den tb (orcOf (ents G)) (pc G n) an (nthC [1, 1, 1, 1, 1, 0, 1, 0, 0] (bodyOf Try.f33)) ⟨[(2, .one (.p 0 0)), (5, .one (.p 1 0)), (53, .one (.l (.n 7) t53)), (54, .one (.i t54)), (55, .one (.i t55))], [.box [.l .i h0, .l .i h02, .l .i h03], .box [.l .i h1, .i h12]]⟩ (roundK an.refs [2, 5, 53, 54, 55] ⟨[], [4], [(2, [])]⟩ (fun st => dl13 G n m R st K) K) = dl13 G n (m + 1) R ⟨[(2, .one (.p 0 0)), (5, .one (.p 1 0)), (53, .one (.l (.n 7) t53)), (54, .one (.i t54)), (55, .one (.i t55))], [.box [.l .i h0, .l .i h02, .l .i h03], .box [.l .i h1, .i h12]]⟩ K := by kernel_rfl
theorem pl13 {G : Gs} (hG : AllE Try.prog (ents G)) (n : Nat) : ∀ m, PieceOK Try.prog an (.loop (nthC [1, 1, 1, 1, 1, 0, 1, 0, 0] (bodyOf Try.f33))) (dl13 G n m) := by
  refine loop_piece mixed tb_ok (orc_ok hG) (pc := pc G n) (lv := [2, 5, 53, 54, 55]) (o := ⟨[], [4], [(2, [])]⟩) (by
    have h : pieces an (nthC [1, 1, 1, 1, 1, 0, 1, 0, 0] (bodyOf Try.f33)) = [(1, 18, .loop (nthC [1, 1, 1, 1, 1, 0, 1, 0, 0, 1, 1, 0, 0, 1, 1, 1, 0, 0] (bodyOf Try.f33)))] := by kernel_rfl
    rw [h]
    exact ⟨pl18 hG n n, trivial⟩) (fun R st K => ?_) (fun m R st K r h => ?_)
  · unfold dl13; split <;> rfl
  · have e := h
    unfold dl13 at e
    split at e
    · rename_i x0 x1 x2 x3 x4 x5 x6 x7; exact (s13 G n m R x0 x1 x2 x3 x4 x5 x6 x7 K).trans h
    · cases e
theorem allp {G : Gs} (hG : AllE Try.prog (ents G)) (n : Nat) : AllP Try.prog an (pc G n) (pieces an (bodyOf Try.f33)) := by
    have h : pieces an (bodyOf Try.f33) = [(1, 7, .loop (nthC [1, 1, 1, 1, 0, 1, 0, 0] (bodyOf Try.f33))), (1, 13, .loop (nthC [1, 1, 1, 1, 1, 0, 1, 0, 0] (bodyOf Try.f33)))] := by kernel_rfl
    rw [h]
    exact ⟨pl7 hG n n, ⟨pl13 hG n n, trivial⟩⟩
/-- What the function computes. -/
noncomputable def Does (G : Gs) (x : Od) (o : Opr) (r : Bool) : Prop := ∃ n, main (R := AT × List Ob) G n x o (fun r0 => some (.one (.b r0), [])) = some (.one (.b r), [])
theorem eq (G : Gs) (n : Nat) (x : Od) (o : Opr) : den tb (orcOf (ents G)) (pc G n) an (bodyOf Try.f33) ⟨argsD 0 [.agg [.l .i (Od.above x), .l .i (Od.below x), .l .i (Od.kind x)], .agg [.s (Opr.name o), .l (.n 7) (Opr.decls o), .b (Opr.assoc o), .b (Opr.comm o), .i (Opr.unit o)]], []⟩ (atEnd (finF tb an [.tmp 4])) = main (R := AT × List Ob) G n x o (fun r0 => some (.one (.b r0), [])) := by kernel_rfl
theorem ok {G : Gs} (hG : AllE Try.prog (ents G)) {g : Od → Opr → Option (Bool)} (hg : ∀ x o r, g x o = some r → Does G x o r) : EntOK Try.prog (ent g) := fun R xs H K r hc => by
  simp only [ent] at hc
  split at hc
  · rename_i a a2 a3 a4 a5 a6 a7 a8
    obtain ⟨r, q1, q2⟩ := bind_some hc
    obtain ⟨n, q3⟩ := hg (Od.mk a a2 a3) (Opr.mk a4 a5 a6 a7 a8) _ q1
    exact ⟨_, _, q2, fn_of_den (pc := pc G n) (an := an) (xs := [.agg [.l .i a, .l .i a2, .l .i a3], .agg [.s a4, .l (.n 7) a5, .b a6, .b a7, .i a8]]) (H := []) (fin := finF tb an [.tmp 4]) mixed tb_ok (orc_ok hG) (fn := Try.f33) (c := bodyOf Try.f33) Try.func33 (by kernel_rfl) (by kernel_rfl) (by kernel_rfl) (by kernel_rfl) (by kernel_rfl) (rs := [.tmp 4]) (by kernel_rfl) (.inl rfl) (allp hG n) ((eq G n (Od.mk a a2 a3) (Opr.mk a4 a5 a6 a7 a8)).trans q3)⟩
  · cases hc
end i_declsOK
namespace i_axiomsOK
structure Gs where
  none_ : Unit
noncomputable def ents (_ : Gs) : List Ent := []
noncomputable def c10 {R : Type} (G : Gs) (n : Nat) (h0 : List Int) (h02 : List Int) (h03 : List Int) (h1 : List ByteArray) (h12 : List Sb) (h13 : List Opr) (h2 : ByteArray) (h22 : List Dc) (h23 : Bool) (h24 : Bool) (h25 : Int) (h3 : List Int) (h32 : Int) (k0 : Bool → Option R) : Option R :=
  bif decide (h25 = 0) then
    (k0 true)
  else
    Option.bind (ix h13 (wr (h25 - 1))) fun e =>
    Option.bind (ix (Opr.decls e) 0) fun e2 =>
    bif decide ((List.length (Dc.args e2) : Int) = 0) then
      (
      Option.bind (ix h03 (Dc.result e2)) fun e4 =>
      Option.bind (ix h03 h32) fun e6 =>
      k0 (decide (e4 = e6))
      )
    else
      k0 false
noncomputable def c5 {R : Type} (G : Gs) (n : Nat) (h0 : List Int) (h02 : List Int) (h03 : List Int) (h1 : List ByteArray) (h12 : List Sb) (h13 : List Opr) (h2 : ByteArray) (h22 : List Dc) (h23 : Bool) (h24 : Bool) (h25 : Int) (k0 : Bool → Option R) : Option R :=
  Option.bind (ix h22 0) fun e =>
  bif !decide ((List.length (Dc.args e) : Int) = 2) then
    (k0 false)
  else
    Option.bind (ix (Dc.args e) 0) fun e3 =>
    Option.bind (ix h03 e3) fun e5 =>
    Option.bind (ix (Dc.args e) 1) fun e7 =>
    Option.bind (ix h03 e7) fun e9 =>
    bif !decide (e5 = e9) then
      (k0 false)
    else
      bif h23 then
        (
        Option.bind (ix (Dc.args e) 0) fun e11 =>
        Option.bind (ix h03 e11) fun e13 =>
        Option.bind (ix h03 (Dc.result e)) fun e15 =>
        bif !decide (e13 = e15) then
          (k0 false)
        else
          c10 G n h0 h02 h03 h1 h12 h13 h2 h22 h23 h24 h25 (Dc.args e) (Dc.result e)
            (fun t6 => k0 t6)
        )
      else
        bif !decide (h25 = 0) then
          (
          Option.bind (ix (Dc.args e) 0) fun e17 =>
          Option.bind (ix h03 e17) fun e19 =>
          Option.bind (ix h03 (Dc.result e)) fun e21 =>
          bif !decide (e19 = e21) then
            (k0 false)
          else
            c10 G n h0 h02 h03 h1 h12 h13 h2 h22 h23 h24 h25 (Dc.args e) (Dc.result e)
              (fun t62 => k0 t62)
          )
        else
          c10 G n h0 h02 h03 h1 h12 h13 h2 h22 h23 h24 h25 (Dc.args e) (Dc.result e)
            (fun t63 => k0 t63)
noncomputable def main {R : Type} (G : Gs) (n : Nat) (x : Od) (s : Sg) (o : Opr) (K : Bool → Option R) : Option R :=
  bif decide ((Opr.unit o) < 0) then
    (K false)
  else
    bif decide ((List.length (Sg.ops s) : Int) < (Opr.unit o)) then
      (K false)
    else
      bif !(Opr.assoc o) then
        (
        bif !(Opr.comm o) then
          (
          bif decide ((Opr.unit o) = 0) then
            (K true)
          else
            c5 G n (Od.above x) (Od.below x) (Od.kind x) (So.names (Sg.sorts s)) (So.subs (Sg.sorts s)) (Sg.ops s) (Opr.name o) (Opr.decls o) (Opr.assoc o) (Opr.comm o) (Opr.unit o)
              (fun t6 => K t6)
          )
        else
          c5 G n (Od.above x) (Od.below x) (Od.kind x) (So.names (Sg.sorts s)) (So.subs (Sg.sorts s)) (Sg.ops s) (Opr.name o) (Opr.decls o) (Opr.assoc o) (Opr.comm o) (Opr.unit o)
            (fun t62 => K t62)
        )
      else
        c5 G n (Od.above x) (Od.below x) (Od.kind x) (So.names (Sg.sorts s)) (So.subs (Sg.sorts s)) (Sg.ops s) (Opr.name o) (Opr.decls o) (Opr.assoc o) (Opr.comm o) (Opr.unit o)
          (fun t63 => K t63)
noncomputable def dc10 (G : Gs) (n : Nat) (R : Type) (st : St) (K : Kt R) : Option R := match st with
  | ⟨[(3, .one (.p 0 0)), (4, .one (.p 1 0)), (5, .one (.p 2 0)), (7, .one (.p 3 0))], [.box [.l .i h0, .l .i h02, .l .i h03], .box [.l .s h1, .l (.n 5) h12, .l (.n 8) h13], .box [.s h2, .l (.n 7) h22, .b h23, .b h24, .i h25], .box [.l .i h3, .i h32]]⟩ => c10 G n h0 h02 h03 h1 h12 h13 h2 h22 h23 h24 h25 h3 h32 (fun t6 => K .ret ⟨[(6, .one (.b t6))], []⟩)
  | _ => none
noncomputable def dc5 (G : Gs) (n : Nat) (R : Type) (st : St) (K : Kt R) : Option R := match st with
  | ⟨[(3, .one (.p 0 0)), (4, .one (.p 1 0)), (5, .one (.p 2 0))], [.box [.l .i h0, .l .i h02, .l .i h03], .box [.l .s h1, .l (.n 5) h12, .l (.n 8) h13], .box [.s h2, .l (.n 7) h22, .b h23, .b h24, .i h25]]⟩ => c5 G n h0 h02 h03 h1 h12 h13 h2 h22 h23 h24 h25 (fun t6 => K .ret ⟨[(6, .one (.b t6))], []⟩)
  | _ => none
noncomputable def pc (G : Gs) (n : Nat) : Pcs := ⟨fun _ _ _ _ => none, fun R id st K => bif Nat.beq id 10 then dc10 G n R st K else bif Nat.beq id 5 then dc5 G n R st K else none, fun _ _ _ _ => none⟩
noncomputable def an : Ann := ⟨116, 0, [], [(10, [3, 4, 5, 7]), (5, [3, 4, 5])], [6], [(6, ⟨[([0, 1, 2, 3, 4, 5, 6, 7, 8, 9, 10, 11, 12, 13, 14, 15, 16, 17, 18, 19, 20, 21, 22], [], [])], [], [], [0, 1, 2, 3], []⟩), (8, ⟨[([0, 1, 2, 3, 4, 5, 6, 7, 8, 9, 10, 11, 12, 13, 14, 15, 16, 17, 18, 19, 20, 21, 22, 23], [], [])], [], [], [0, 1, 2, 3], []⟩), (13, ⟨[([0, 1, 2, 3, 4, 5, 6, 7, 8, 9, 10, 11, 12, 13, 14, 15, 16, 17, 18, 19], [], [])], [], [], [0, 1, 2, 3, 4], []⟩)]⟩
theorem s10 (G : Gs) (n : Nat) (R : Type) (h0 : List Int) (h02 : List Int) (h03 : List Int) (h1 : List ByteArray) (h12 : List Sb) (h13 : List Opr) (h2 : ByteArray) (h22 : List Dc) (h23 : Bool) (h24 : Bool) (h25 : Int) (h3 : List Int) (h32 : Int) (K : Kt R) : den tb (orcOf (ents G)) (pc G n) an (nthC [1, 1, 1, 1, 1, 1] (bodyOf Try.f34)) ⟨[(3, .one (.p 0 0)), (4, .one (.p 1 0)), (5, .one (.p 2 0)), (7, .one (.p 3 0))], [.box [.l .i h0, .l .i h02, .l .i h03], .box [.l .s h1, .l (.n 5) h12, .l (.n 8) h13], .box [.s h2, .l (.n 7) h22, .b h23, .b h24, .i h25], .box [.l .i h3, .i h32]]⟩ (outK an.refs ⟨[], [6], []⟩ K) = dc10 G n R ⟨[(3, .one (.p 0 0)), (4, .one (.p 1 0)), (5, .one (.p 2 0)), (7, .one (.p 3 0))], [.box [.l .i h0, .l .i h02, .l .i h03], .box [.l .s h1, .l (.n 5) h12, .l (.n 8) h13], .box [.s h2, .l (.n 7) h22, .b h23, .b h24, .i h25], .box [.l .i h3, .i h32]]⟩ K := by kernel_rfl
theorem pc10 {G : Gs} (hG : AllE Try.prog (ents G)) {n : Nat} : PieceOK Try.prog an (nthC [1, 1, 1, 1, 1, 1] (bodyOf Try.f34)) (dc10 G n) := by
  refine cut_piece mixed tb_ok (orc_ok hG) (pc := pc G n) (o := ⟨[], [6], []⟩) (by
    have h : pieces an (nthC [1, 1, 1, 1, 1, 1] (bodyOf Try.f34)) = [] := by kernel_rfl
    rw [h]
    exact trivial) (fun R st K r h => ?_)
  have e := h
  unfold dc10 at e
  split at e
  · rename_i x0 x1 x2 x3 x4 x5 x6 x7 x8 x9 x10 x11 x12; exact (s10 G n R x0 x1 x2 x3 x4 x5 x6 x7 x8 x9 x10 x11 x12 K).trans h
  · cases e
theorem s5 (G : Gs) (n : Nat) (R : Type) (h0 : List Int) (h02 : List Int) (h03 : List Int) (h1 : List ByteArray) (h12 : List Sb) (h13 : List Opr) (h2 : ByteArray) (h22 : List Dc) (h23 : Bool) (h24 : Bool) (h25 : Int) (K : Kt R) : den tb (orcOf (ents G)) (pc G n) an (nthC [1, 1, 1] (bodyOf Try.f34)) ⟨[(3, .one (.p 0 0)), (4, .one (.p 1 0)), (5, .one (.p 2 0))], [.box [.l .i h0, .l .i h02, .l .i h03], .box [.l .s h1, .l (.n 5) h12, .l (.n 8) h13], .box [.s h2, .l (.n 7) h22, .b h23, .b h24, .i h25]]⟩ (outK an.refs ⟨[], [6], []⟩ K) = dc5 G n R ⟨[(3, .one (.p 0 0)), (4, .one (.p 1 0)), (5, .one (.p 2 0))], [.box [.l .i h0, .l .i h02, .l .i h03], .box [.l .s h1, .l (.n 5) h12, .l (.n 8) h13], .box [.s h2, .l (.n 7) h22, .b h23, .b h24, .i h25]]⟩ K := by kernel_rfl
theorem pc5 {G : Gs} (hG : AllE Try.prog (ents G)) {n : Nat} : PieceOK Try.prog an (nthC [1, 1, 1] (bodyOf Try.f34)) (dc5 G n) := by
  refine cut_piece mixed tb_ok (orc_ok hG) (pc := pc G n) (o := ⟨[], [6], []⟩) (by
    have h : pieces an (nthC [1, 1, 1] (bodyOf Try.f34)) = [(0, 10, nthC [1, 1, 1, 1, 1, 1] (bodyOf Try.f34))] := by kernel_rfl
    rw [h]
    exact ⟨pc10 hG, trivial⟩) (fun R st K r h => ?_)
  have e := h
  unfold dc5 at e
  split at e
  · rename_i x0 x1 x2 x3 x4 x5 x6 x7 x8 x9 x10; exact (s5 G n R x0 x1 x2 x3 x4 x5 x6 x7 x8 x9 x10 K).trans h
  · cases e
theorem allp {G : Gs} (hG : AllE Try.prog (ents G)) (n : Nat) : AllP Try.prog an (pc G n) (pieces an (bodyOf Try.f34)) := by
    have h : pieces an (bodyOf Try.f34) = [(0, 5, nthC [1, 1, 1] (bodyOf Try.f34))] := by kernel_rfl
    rw [h]
    exact ⟨pc5 hG, trivial⟩
/-- What the function computes. -/
noncomputable def Does (G : Gs) (x : Od) (s : Sg) (o : Opr) (r : Bool) : Prop := ∃ n, main (R := AT × List Ob) G n x s o (fun r0 => some (.one (.b r0), [])) = some (.one (.b r), [])
theorem eq (G : Gs) (n : Nat) (x : Od) (s : Sg) (o : Opr) : den tb (orcOf (ents G)) (pc G n) an (bodyOf Try.f34) ⟨argsD 0 [.agg [.l .i (Od.above x), .l .i (Od.below x), .l .i (Od.kind x)], .agg [.l .s (So.names (Sg.sorts s)), .l (.n 5) (So.subs (Sg.sorts s)), .l (.n 8) (Sg.ops s)], .agg [.s (Opr.name o), .l (.n 7) (Opr.decls o), .b (Opr.assoc o), .b (Opr.comm o), .i (Opr.unit o)]], []⟩ (atEnd (finF tb an [.tmp 6])) = main (R := AT × List Ob) G n x s o (fun r0 => some (.one (.b r0), [])) := by kernel_rfl
theorem ok {G : Gs} (hG : AllE Try.prog (ents G)) {g : Od → Sg → Opr → Option (Bool)} (hg : ∀ x s o r, g x s o = some r → Does G x s o r) : EntOK Try.prog (ent g) := fun R xs H K r hc => by
  simp only [ent] at hc
  split at hc
  · rename_i a a2 a3 a4 a5 a6 a7 a8 a9 a10 a11
    obtain ⟨r, q1, q2⟩ := bind_some hc
    obtain ⟨n, q3⟩ := hg (Od.mk a a2 a3) (Sg.mk (So.mk a4 a5) a6) (Opr.mk a7 a8 a9 a10 a11) _ q1
    exact ⟨_, _, q2, fn_of_den (pc := pc G n) (an := an) (xs := [.agg [.l .i a, .l .i a2, .l .i a3], .agg [.l .s a4, .l (.n 5) a5, .l (.n 8) a6], .agg [.s a7, .l (.n 7) a8, .b a9, .b a10, .i a11]]) (H := []) (fin := finF tb an [.tmp 6]) mixed tb_ok (orc_ok hG) (fn := Try.f34) (c := bodyOf Try.f34) Try.func34 (by kernel_rfl) (by kernel_rfl) (by kernel_rfl) (by kernel_rfl) (by kernel_rfl) (rs := [.tmp 6]) (by kernel_rfl) (.inl rfl) (allp hG n) ((eq G n (Od.mk a a2 a3) (Sg.mk (So.mk a4 a5) a6) (Opr.mk a7 a8 a9 a10 a11)).trans q3)⟩
  · cases hc
end i_axiomsOK
namespace i_IsSignature
structure Gs where
  i_newOrder : So → Option (Od × Bool)
  i_IsName : ByteArray → Option (Bool)
  i_declsOK : Od → Opr → Option (Bool)
  i_axiomsOK : Od → Sg → Opr → Option (Bool)
noncomputable def ents (G : Gs) : List Ent := [i_newOrder.ent G.i_newOrder, i_IsName.ent G.i_IsName, i_declsOK.ent G.i_declsOK, i_axiomsOK.ent G.i_axiomsOK]
noncomputable def b6 {R : Type} (G : Gs) (n : Nat) (t26 : List Opr) (t27 : Int) (t28 : Int) (h0 : List ByteArray) (h02 : List Sb) (h03 : List Opr) (h1 : List Int) (h12 : List Int) (h13 : List Int) (h2 : List (ByteArray × Bool)) (nx : List Opr → Int → Int → List ByteArray → List Sb → List Opr → List Int → List Int → List Int → (List (ByteArray × Bool)) → Option R) (k0 : Bool → Option R) (k1 : List ByteArray → List Sb → List Opr → List Int → List Int → List Int → Option R) : Option R :=
  bif decide (t28 < t27) then
    (
    Option.bind (ix t26 t28) fun e =>
    bif mval h2 (Opr.name e) false then
      (k0 false)
    else
      Option.bind (G.i_IsName (Opr.name e)) fun r =>
      bif !r then
        (k0 false)
      else
        Option.bind (G.i_declsOK (Od.mk h1 h12 h13) e) fun r2 =>
        bif !r2 then
          (k0 false)
        else
          nx t26 t27 (wr (t28 + 1)) h0 h02 h03 h1 h12 h13 (((Opr.name e), true) :: h2)
    )
  else
    k1 h0 h02 h03 h1 h12 h13
noncomputable def l6 {R : Type} (G : Gs) (n m : Nat) (t26 : List Opr) (t27 : Int) (t28 : Int) (h0 : List ByteArray) (h02 : List Sb) (h03 : List Opr) (h1 : List Int) (h12 : List Int) (h13 : List Int) (h2 : List (ByteArray × Bool)) (k0 : Bool → Option R) (k1 : List ByteArray → List Sb → List Opr → List Int → List Int → List Int → Option R) : Option R := iter (fun (v : List Opr × Int × Int × List ByteArray × List Sb × List Opr × List Int × List Int × List Int × (List (ByteArray × Bool))) nx => b6 G n v.1 v.2.1 v.2.2.1 v.2.2.2.1 v.2.2.2.2.1 v.2.2.2.2.2.1 v.2.2.2.2.2.2.1 v.2.2.2.2.2.2.2.1 v.2.2.2.2.2.2.2.2.1 v.2.2.2.2.2.2.2.2.2 (fun y0 y1 y2 y3 y4 y5 y6 y7 y8 y9 => nx (y0, y1, y2, y3, y4, y5, y6, y7, y8, y9)) k0 k1) m (t26, t27, t28, h0, h02, h03, h1, h12, h13, h2)
noncomputable def b13 {R : Type} (G : Gs) (n : Nat) (t53 : List Opr) (t54 : Int) (t55 : Int) (h0 : List ByteArray) (h02 : List Sb) (h03 : List Opr) (h1 : List Int) (h12 : List Int) (h13 : List Int) (nx : List Opr → Int → Int → List ByteArray → List Sb → List Opr → List Int → List Int → List Int → Option R) (k0 : Bool → Option R) (k1 : Option R) : Option R :=
  bif decide (t55 < t54) then
    (
    Option.bind (ix t53 t55) fun e =>
    Option.bind (G.i_axiomsOK (Od.mk h1 h12 h13) (Sg.mk (So.mk h0 h02) h03) e) fun r =>
    bif !r then
      (k0 false)
    else
      nx t53 t54 (wr (t55 + 1)) h0 h02 h03 h1 h12 h13
    )
  else
    k1
noncomputable def l13 {R : Type} (G : Gs) (n m : Nat) (t53 : List Opr) (t54 : Int) (t55 : Int) (h0 : List ByteArray) (h02 : List Sb) (h03 : List Opr) (h1 : List Int) (h12 : List Int) (h13 : List Int) (k0 : Bool → Option R) (k1 : Option R) : Option R := iter (fun (v : List Opr × Int × Int × List ByteArray × List Sb × List Opr × List Int × List Int × List Int) nx => b13 G n v.1 v.2.1 v.2.2.1 v.2.2.2.1 v.2.2.2.2.1 v.2.2.2.2.2.1 v.2.2.2.2.2.2.1 v.2.2.2.2.2.2.2.1 v.2.2.2.2.2.2.2.2 (fun y0 y1 y2 y3 y4 y5 y6 y7 y8 => nx (y0, y1, y2, y3, y4, y5, y6, y7, y8)) k0 k1) m (t53, t54, t55, h0, h02, h03, h1, h12, h13)
noncomputable def main {R : Type} (G : Gs) (n : Nat) (s : Sg) (K : Bool → Option R) : Option R :=
  Option.bind (G.i_newOrder (Sg.sorts s)) fun r =>
  bif !r.2 then
    (K false)
  else
    bif decide (14 < (List.length (Sg.ops s) : Int)) then
      (K false)
    else
      l6 G n n (Sg.ops s) (List.length (Sg.ops s) : Int) 0 (So.names (Sg.sorts s)) (So.subs (Sg.sorts s)) (Sg.ops s) (Od.above r.1) (Od.below r.1) (Od.kind r.1) []
        (fun t2 => K t2)
        (fun h0 h02 h03 h1 h12 h13 =>
          l13 G n n h03 (List.length h03 : Int) 0 h0 h02 h03 h1 h12 h13
            (fun t22 => K t22)
            ( K true)
        )
noncomputable def dl6 (G : Gs) (n m : Nat) (R : Type) (st : St) (K : Kt R) : Option R := match st with
  | ⟨[(1, .one (.p 0 0)), (3, .one (.p 1 0)), (5, .one (.m 2)), (26, .one (.l (.n 8) t26)), (27, .one (.i t27)), (28, .one (.i t28))], [.box [.l .s h0, .l (.n 5) h02, .l (.n 8) h03], .box [.l .i h1, .l .i h12, .l .i h13], .map .b h2]⟩ => l6 G n m t26 t27 t28 h0 h02 h03 h1 h12 h13 h2 (fun t2 => K .ret ⟨[(2, .one (.b t2))], []⟩) (fun h0 h02 h03 h1 h12 h13 => K (.exit 0) ⟨[(1, .one (.p 0 0)), (3, .one (.p 1 0))], [.box [.l .s h0, .l (.n 5) h02, .l (.n 8) h03], .box [.l .i h1, .l .i h12, .l .i h13]]⟩)
  | _ => none
noncomputable def dl13 (G : Gs) (n m : Nat) (R : Type) (st : St) (K : Kt R) : Option R := match st with
  | ⟨[(1, .one (.p 0 0)), (3, .one (.p 1 0)), (53, .one (.l (.n 8) t53)), (54, .one (.i t54)), (55, .one (.i t55))], [.box [.l .s h0, .l (.n 5) h02, .l (.n 8) h03], .box [.l .i h1, .l .i h12, .l .i h13]]⟩ => l13 G n m t53 t54 t55 h0 h02 h03 h1 h12 h13 (fun t2 => K .ret ⟨[(2, .one (.b t2))], []⟩) (K (.exit 2) ⟨[], []⟩)
  | _ => none
noncomputable def pc (G : Gs) (n : Nat) : Pcs := ⟨fun R id st K => bif Nat.beq id 6 then dl6 G n n R st K else bif Nat.beq id 13 then dl13 G n n R st K else none, fun _ _ _ _ => none, fun _ _ _ _ => none⟩
noncomputable def an : Ann := ⟨65, 0, [(6, [1, 3, 5, 26, 27, 28]), (13, [1, 3, 53, 54, 55])], [], [2], []⟩
theorem s6 (G : Gs) (n m : Nat) (R : Type) (t26 : List Opr) (t27 : Int) (t28 : Int) (h0 : List ByteArray) (h02 : List Sb) (h03 : List Opr) (h1 : List Int) (h12 : List Int) (h13 : List Int) (h2 : List (ByteArray × Bool)) (K : Kt R) : den tb (orcOf (ents G)) (pc G n) an (nthC [1, 1, 1, 1, 0, 1, 0, 0] (bodyOf Try.f17)) ⟨[(1, .one (.p 0 0)), (3, .one (.p 1 0)), (5, .one (.m 2)), (26, .one (.l (.n 8) t26)), (27, .one (.i t27)), (28, .one (.i t28))], [.box [.l .s h0, .l (.n 5) h02, .l (.n 8) h03], .box [.l .i h1, .l .i h12, .l .i h13], .map .b h2]⟩ (roundK an.refs [1, 3, 5, 26, 27, 28] ⟨[1, 3], [2], [(0, [1, 3])]⟩ (fun st => dl6 G n m R st K) K) = dl6 G n (m + 1) R ⟨[(1, .one (.p 0 0)), (3, .one (.p 1 0)), (5, .one (.m 2)), (26, .one (.l (.n 8) t26)), (27, .one (.i t27)), (28, .one (.i t28))], [.box [.l .s h0, .l (.n 5) h02, .l (.n 8) h03], .box [.l .i h1, .l .i h12, .l .i h13], .map .b h2]⟩ K := by kernel_rfl
theorem pl6 {G : Gs} (hG : AllE Try.prog (ents G)) (n : Nat) : ∀ m, PieceOK Try.prog an (.loop (nthC [1, 1, 1, 1, 0, 1, 0, 0] (bodyOf Try.f17))) (dl6 G n m) := by
  refine loop_piece mixed tb_ok (orc_ok hG) (pc := pc G n) (lv := [1, 3, 5, 26, 27, 28]) (o := ⟨[1, 3], [2], [(0, [1, 3])]⟩) (by
    have h : pieces an (nthC [1, 1, 1, 1, 0, 1, 0, 0] (bodyOf Try.f17)) = [] := by kernel_rfl
    rw [h]
    exact trivial) (fun R st K => ?_) (fun m R st K r h => ?_)
  · unfold dl6; split <;> rfl
  · have e := h
    unfold dl6 at e
    split at e
    · rename_i x0 x1 x2 x3 x4 x5 x6 x7 x8 x9; exact (s6 G n m R x0 x1 x2 x3 x4 x5 x6 x7 x8 x9 K).trans h
    · cases e
theorem s13 (G : Gs) (n m : Nat) (R : Type) (t53 : List Opr) (t54 : Int) (t55 : Int) (h0 : List ByteArray) (h02 : List Sb) (h03 : List Opr) (h1 : List Int) (h12 : List Int) (h13 : List Int) (K : Kt R) : den tb (orcOf (ents G)) (pc G n) an (nthC [1, 1, 1, 1, 1, 0, 1, 0, 0] (bodyOf Try.f17)) ⟨[(1, .one (.p 0 0)), (3, .one (.p 1 0)), (53, .one (.l (.n 8) t53)), (54, .one (.i t54)), (55, .one (.i t55))], [.box [.l .s h0, .l (.n 5) h02, .l (.n 8) h03], .box [.l .i h1, .l .i h12, .l .i h13]]⟩ (roundK an.refs [1, 3, 53, 54, 55] ⟨[], [2], [(2, [])]⟩ (fun st => dl13 G n m R st K) K) = dl13 G n (m + 1) R ⟨[(1, .one (.p 0 0)), (3, .one (.p 1 0)), (53, .one (.l (.n 8) t53)), (54, .one (.i t54)), (55, .one (.i t55))], [.box [.l .s h0, .l (.n 5) h02, .l (.n 8) h03], .box [.l .i h1, .l .i h12, .l .i h13]]⟩ K := by kernel_rfl
theorem pl13 {G : Gs} (hG : AllE Try.prog (ents G)) (n : Nat) : ∀ m, PieceOK Try.prog an (.loop (nthC [1, 1, 1, 1, 1, 0, 1, 0, 0] (bodyOf Try.f17))) (dl13 G n m) := by
  refine loop_piece mixed tb_ok (orc_ok hG) (pc := pc G n) (lv := [1, 3, 53, 54, 55]) (o := ⟨[], [2], [(2, [])]⟩) (by
    have h : pieces an (nthC [1, 1, 1, 1, 1, 0, 1, 0, 0] (bodyOf Try.f17)) = [] := by kernel_rfl
    rw [h]
    exact trivial) (fun R st K => ?_) (fun m R st K r h => ?_)
  · unfold dl13; split <;> rfl
  · have e := h
    unfold dl13 at e
    split at e
    · rename_i x0 x1 x2 x3 x4 x5 x6 x7 x8; exact (s13 G n m R x0 x1 x2 x3 x4 x5 x6 x7 x8 K).trans h
    · cases e
theorem allp {G : Gs} (hG : AllE Try.prog (ents G)) (n : Nat) : AllP Try.prog an (pc G n) (pieces an (bodyOf Try.f17)) := by
    have h : pieces an (bodyOf Try.f17) = [(1, 6, .loop (nthC [1, 1, 1, 1, 0, 1, 0, 0] (bodyOf Try.f17))), (1, 13, .loop (nthC [1, 1, 1, 1, 1, 0, 1, 0, 0] (bodyOf Try.f17)))] := by kernel_rfl
    rw [h]
    exact ⟨pl6 hG n n, ⟨pl13 hG n n, trivial⟩⟩
/-- What the function computes. -/
noncomputable def Does (G : Gs) (s : Sg) (r : Bool) : Prop := ∃ n, main (R := AT × List Ob) G n s (fun r0 => some (.one (.b r0), [])) = some (.one (.b r), [])
theorem eq (G : Gs) (n : Nat) (s : Sg) : den tb (orcOf (ents G)) (pc G n) an (bodyOf Try.f17) ⟨argsD 0 [.agg [.l .s (So.names (Sg.sorts s)), .l (.n 5) (So.subs (Sg.sorts s)), .l (.n 8) (Sg.ops s)]], []⟩ (atEnd (finF tb an [.tmp 2])) = main (R := AT × List Ob) G n s (fun r0 => some (.one (.b r0), [])) := by kernel_rfl
theorem ok {G : Gs} (hG : AllE Try.prog (ents G)) {g : Sg → Option (Bool)} (hg : ∀ s r, g s = some r → Does G s r) : EntOK Try.prog (ent g) := fun R xs H K r hc => by
  simp only [ent] at hc
  split at hc
  · rename_i a a2 a3
    obtain ⟨r, q1, q2⟩ := bind_some hc
    obtain ⟨n, q3⟩ := hg (Sg.mk (So.mk a a2) a3) _ q1
    exact ⟨_, _, q2, fn_of_den (pc := pc G n) (an := an) (xs := [.agg [.l .s a, .l (.n 5) a2, .l (.n 8) a3]]) (H := []) (fin := finF tb an [.tmp 2]) mixed tb_ok (orc_ok hG) (fn := Try.f17) (c := bodyOf Try.f17) Try.func17 (by kernel_rfl) (by kernel_rfl) (by kernel_rfl) (by kernel_rfl) (by kernel_rfl) (rs := [.tmp 2]) (by kernel_rfl) (.inl rfl) (allp hG n) ((eq G n (Sg.mk (So.mk a a2) a3)).trans q3)⟩
  · cases hc
end i_IsSignature
namespace i_singleOp
structure Gs where
  none_ : Unit
noncomputable def ents (_ : Gs) : List Ent := []
noncomputable def main {R : Type} (G : Gs) (n : Nat) (o : Opr) (K : Bool → Option R) : Option R :=
  bif decide ((List.length (Opr.decls o) : Int) = 1) then
    (
    bif !(Opr.assoc o) then
      (
      bif !(Opr.comm o) then
        (K (decide ((Opr.unit o) = 0)))
      else
        K false
      )
    else
      K false
    )
  else
    K false
noncomputable def pc (_ : Gs) (_ : Nat) : Pcs := ⟨fun _ _ _ _ => none, fun _ _ _ _ => none, fun _ _ _ _ => none⟩
noncomputable def an : Ann := ⟨22, 0, [], [], [2], []⟩
theorem allp {G : Gs} (hG : AllE Try.prog (ents G)) (n : Nat) : AllP Try.prog an (pc G n) (pieces an (bodyOf Try.f18)) := by
    have h : pieces an (bodyOf Try.f18) = [] := by kernel_rfl
    rw [h]
    exact trivial
/-- What the function computes. -/
noncomputable def Does (G : Gs) (o : Opr) (r : Bool) : Prop := ∃ n, main (R := AT × List Ob) G n o (fun r0 => some (.one (.b r0), [])) = some (.one (.b r), [])
theorem eq (G : Gs) (n : Nat) (o : Opr) : den tb (orcOf (ents G)) (pc G n) an (bodyOf Try.f18) ⟨argsD 0 [.agg [.s (Opr.name o), .l (.n 7) (Opr.decls o), .b (Opr.assoc o), .b (Opr.comm o), .i (Opr.unit o)]], []⟩ (atEnd (finF tb an [.tmp 2])) = main (R := AT × List Ob) G n o (fun r0 => some (.one (.b r0), [])) := by kernel_rfl
theorem ok {G : Gs} (hG : AllE Try.prog (ents G)) {g : Opr → Option (Bool)} (hg : ∀ o r, g o = some r → Does G o r) : EntOK Try.prog (ent g) := fun R xs H K r hc => by
  simp only [ent] at hc
  split at hc
  · rename_i a a2 a3 a4 a5
    obtain ⟨r, q1, q2⟩ := bind_some hc
    obtain ⟨n, q3⟩ := hg (Opr.mk a a2 a3 a4 a5) _ q1
    exact ⟨_, _, q2, fn_of_den (pc := pc G n) (an := an) (xs := [.agg [.s a, .l (.n 7) a2, .b a3, .b a4, .i a5]]) (H := []) (fin := finF tb an [.tmp 2]) mixed tb_ok (orc_ok hG) (fn := Try.f18) (c := bodyOf Try.f18) Try.func18 (by kernel_rfl) (by kernel_rfl) (by kernel_rfl) (by kernel_rfl) (by kernel_rfl) (rs := [.tmp 2]) (by kernel_rfl) (.inl rfl) (allp hG n) ((eq G n (Opr.mk a a2 a3 a4 a5)).trans q3)⟩
  · cases hc
end i_singleOp
namespace i_IsConstructors
structure Gs where
  i_IsSignature : Sg → Option (Bool)
  i_singleOp : Opr → Option (Bool)
noncomputable def ents (G : Gs) : List Ent := [i_IsSignature.ent G.i_IsSignature, i_singleOp.ent G.i_singleOp]
noncomputable def b4 {R : Type} (G : Gs) (n : Nat) (ctors : List Int) (t10 : List Int) (t11 : Int) (t12 : Int) (h0 : List ByteArray) (h02 : List Sb) (h03 : List Opr) (nx : List Int → List Int → Int → Int → List ByteArray → List Sb → List Opr → Option R) (k0 : Bool → Option R) (k1 : Option R) : Option R :=
  bif decide (t12 < t11) then
    (
    Option.bind (ix t10 t12) fun e =>
    bif decide (e < 0) then
      (k0 false)
    else
      bif decide ((List.length h03 : Int) ≤ e) then
        (k0 false)
      else
        bif decide (0 < t12) then
          (
          Option.bind (ix ctors (wr (t12 - 1))) fun e2 =>
          bif decide (e ≤ e2) then
            (k0 false)
          else
            Option.bind (ix h03 e) fun e3 =>
            Option.bind (G.i_singleOp e3) fun r =>
            bif !r then
              (k0 false)
            else
              nx ctors t10 t11 (wr (t12 + 1)) h0 h02 h03
          )
        else
          Option.bind (ix h03 e) fun e4 =>
          Option.bind (G.i_singleOp e4) fun r2 =>
          bif !r2 then
            (k0 false)
          else
            nx ctors t10 t11 (wr (t12 + 1)) h0 h02 h03
    )
  else
    k1
noncomputable def l4 {R : Type} (G : Gs) (n m : Nat) (ctors : List Int) (t10 : List Int) (t11 : Int) (t12 : Int) (h0 : List ByteArray) (h02 : List Sb) (h03 : List Opr) (k0 : Bool → Option R) (k1 : Option R) : Option R := iter (fun (v : List Int × List Int × Int × Int × List ByteArray × List Sb × List Opr) nx => b4 G n v.1 v.2.1 v.2.2.1 v.2.2.2.1 v.2.2.2.2.1 v.2.2.2.2.2.1 v.2.2.2.2.2.2 (fun y0 y1 y2 y3 y4 y5 y6 => nx (y0, y1, y2, y3, y4, y5, y6)) k0 k1) m (ctors, t10, t11, t12, h0, h02, h03)
noncomputable def main {R : Type} (G : Gs) (n : Nat) (s : Sg) (ctors : List Int) (K : Bool → Option R) : Option R :=
  Option.bind (G.i_IsSignature s) fun r =>
  bif !r then
    (K false)
  else
    l4 G n n ctors ctors (List.length ctors : Int) 0 (So.names (Sg.sorts s)) (So.subs (Sg.sorts s)) (Sg.ops s)
      (fun t4 => K t4)
      ( K true)
noncomputable def dl4 (G : Gs) (n m : Nat) (R : Type) (st : St) (K : Kt R) : Option R := match st with
  | ⟨[(1, .one (.l .i ctors)), (2, .one (.p 0 0)), (10, .one (.l .i t10)), (11, .one (.i t11)), (12, .one (.i t12))], [.box [.l .s h0, .l (.n 5) h02, .l (.n 8) h03]]⟩ => l4 G n m ctors t10 t11 t12 h0 h02 h03 (fun t4 => K .ret ⟨[(4, .one (.b t4))], []⟩) (K (.exit 0) ⟨[], []⟩)
  | _ => none
noncomputable def pc (G : Gs) (n : Nat) : Pcs := ⟨fun R id st K => bif Nat.beq id 4 then dl4 G n n R st K else none, fun _ _ _ _ => none, fun _ _ _ _ => none⟩
noncomputable def an : Ann := ⟨49, 0, [(4, [1, 2, 10, 11, 12])], [], [4], []⟩
theorem s4 (G : Gs) (n m : Nat) (R : Type) (ctors : List Int) (t10 : List Int) (t11 : Int) (t12 : Int) (h0 : List ByteArray) (h02 : List Sb) (h03 : List Opr) (K : Kt R) : den tb (orcOf (ents G)) (pc G n) an (nthC [1, 1, 0, 1, 0, 0] (bodyOf Try.f8)) ⟨[(1, .one (.l .i ctors)), (2, .one (.p 0 0)), (10, .one (.l .i t10)), (11, .one (.i t11)), (12, .one (.i t12))], [.box [.l .s h0, .l (.n 5) h02, .l (.n 8) h03]]⟩ (roundK an.refs [1, 2, 10, 11, 12] ⟨[], [4], [(0, [])]⟩ (fun st => dl4 G n m R st K) K) = dl4 G n (m + 1) R ⟨[(1, .one (.l .i ctors)), (2, .one (.p 0 0)), (10, .one (.l .i t10)), (11, .one (.i t11)), (12, .one (.i t12))], [.box [.l .s h0, .l (.n 5) h02, .l (.n 8) h03]]⟩ K := by kernel_rfl
theorem pl4 {G : Gs} (hG : AllE Try.prog (ents G)) (n : Nat) : ∀ m, PieceOK Try.prog an (.loop (nthC [1, 1, 0, 1, 0, 0] (bodyOf Try.f8))) (dl4 G n m) := by
  refine loop_piece mixed tb_ok (orc_ok hG) (pc := pc G n) (lv := [1, 2, 10, 11, 12]) (o := ⟨[], [4], [(0, [])]⟩) (by
    have h : pieces an (nthC [1, 1, 0, 1, 0, 0] (bodyOf Try.f8)) = [] := by kernel_rfl
    rw [h]
    exact trivial) (fun R st K => ?_) (fun m R st K r h => ?_)
  · unfold dl4; split <;> rfl
  · have e := h
    unfold dl4 at e
    split at e
    · rename_i x0 x1 x2 x3 x4 x5 x6; exact (s4 G n m R x0 x1 x2 x3 x4 x5 x6 K).trans h
    · cases e
theorem allp {G : Gs} (hG : AllE Try.prog (ents G)) (n : Nat) : AllP Try.prog an (pc G n) (pieces an (bodyOf Try.f8)) := by
    have h : pieces an (bodyOf Try.f8) = [(1, 4, .loop (nthC [1, 1, 0, 1, 0, 0] (bodyOf Try.f8)))] := by kernel_rfl
    rw [h]
    exact ⟨pl4 hG n n, trivial⟩
/-- What the function computes. -/
noncomputable def Does (G : Gs) (s : Sg) (ctors : List Int) (r : Bool) : Prop := ∃ n, main (R := AT × List Ob) G n s ctors (fun r0 => some (.one (.b r0), [])) = some (.one (.b r), [])
theorem eq (G : Gs) (n : Nat) (s : Sg) (ctors : List Int) : den tb (orcOf (ents G)) (pc G n) an (bodyOf Try.f8) ⟨argsD 0 [.agg [.l .s (So.names (Sg.sorts s)), .l (.n 5) (So.subs (Sg.sorts s)), .l (.n 8) (Sg.ops s)], .one (.l .i ctors)], []⟩ (atEnd (finF tb an [.tmp 4])) = main (R := AT × List Ob) G n s ctors (fun r0 => some (.one (.b r0), [])) := by kernel_rfl
theorem ok {G : Gs} (hG : AllE Try.prog (ents G)) {g : Sg → List Int → Option (Bool)} (hg : ∀ s ctors r, g s ctors = some r → Does G s ctors r) : EntOK Try.prog (ent g) := fun R xs H K r hc => by
  simp only [ent] at hc
  split at hc
  · rename_i a a2 a3 a4
    obtain ⟨r, q1, q2⟩ := bind_some hc
    obtain ⟨n, q3⟩ := hg (Sg.mk (So.mk a a2) a3) a4 _ q1
    exact ⟨_, _, q2, fn_of_den (pc := pc G n) (an := an) (xs := [.agg [.l .s a, .l (.n 5) a2, .l (.n 8) a3], .one (.l .i a4)]) (H := []) (fin := finF tb an [.tmp 4]) mixed tb_ok (orc_ok hG) (fn := Try.f8) (c := bodyOf Try.f8) Try.func8 (by kernel_rfl) (by kernel_rfl) (by kernel_rfl) (by kernel_rfl) (by kernel_rfl) (rs := [.tmp 4]) (by kernel_rfl) (.inl rfl) (allp hG n) ((eq G n (Sg.mk (So.mk a a2) a3) a4).trans q3)⟩
  · cases hc
end i_IsConstructors
end Go.Proofs.Ytjafncnjefnloaa.Den

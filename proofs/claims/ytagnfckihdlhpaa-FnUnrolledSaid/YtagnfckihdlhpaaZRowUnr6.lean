/-
  Texts that the claim rests on, merged: PA, Pick, PDraw, PDraw2, Ints, Lasso, FormSz, FormTo, FormEq, FormIs, Hold, TermSz.
-/
import Derived.Test.YtagnfckihdlhpaaChecked
import Derived.WalkSpells
import Derived.WalkLawsBesides
import Derived.Deep.OwnRows
import Derived.Deep.QuietTactic
import Derived.BigQuiet
import Derived.Deep.RegionHeld3
import Derived.Deep.DeepFit
import Derived.Test.YtagnfckihdlhpaaZRowUnr5

/-
  Functions of the program, by den. Printed by wip/den/dp.py.
-/
namespace Go.Proofs.Ytagnfckihdlhpaa.Den
open Go.RowKit
set_option maxRecDepth 100000
set_option linter.unusedVariables false
namespace s_l1Byte
structure Gs where
  none_ : Unit
noncomputable def ents (_ : Gs) : List Ent := []
noncomputable def main {R : Type} (G : Gs) (n : Nat) (c : Cur) (K : Int → Cur → Option R) : Option R :=
  Option.bind (bif decide (0 ≤ 33) then some (Abs.bitsI .shr .i64 (wr ((wr ((Cur.h c) * 6364136223846793005)) + 1442695040888963407)) 33) else none) fun q2 =>
  Option.bind (bif decide (0 ≤ 45) then some (Abs.bitsI .shr .i64 (wr ((wr ((Cur.h c) * 6364136223846793005)) + 1442695040888963407)) 45) else none) fun q4 =>
  bif decide ((Cur.i c) < (List.length (Cur.b c) : Int)) then
    (
    Option.bind (ix (Cur.b c) (Cur.i c)) fun e2 =>
    K (Abs.bitsI .and .i64 (wr ((Abs.bitsI .and .i64 (Abs.bitsI .xor .i64 q2 q4) 255) + e2)) 255) (Cur.mk (Cur.b c) (wr ((Cur.i c) + 1)) (wr ((wr ((Cur.h c) * 6364136223846793005)) + 1442695040888963407)))
    )
  else
    K (Abs.bitsI .and .i64 (Abs.bitsI .xor .i64 q2 q4) 255) (Cur.mk (Cur.b c) (Cur.i c) (wr ((wr ((Cur.h c) * 6364136223846793005)) + 1442695040888963407)))
noncomputable def pc (_ : Gs) (_ : Nat) : Pcs := ⟨fun _ _ _ _ => none, fun _ _ _ _ => none, fun _ _ _ _ => none⟩
noncomputable def an : Ann := ⟨58, 1, [], [], [2], [(2, ⟨[([0, 1, 2, 3, 4, 5, 6, 7, 8, 9, 10, 11, 12], [], [])], [], [], [0], []⟩), (3, ⟨[([0, 1, 2, 3, 4, 5, 6, 7, 8, 9], [], [])], [], [], [0], []⟩), (4, ⟨[([0, 1, 2, 3, 4, 5, 6, 7, 8, 9, 10, 11, 12, 13, 14], [], [])], [], [], [0], []⟩)]⟩
theorem allp {G : Gs} (hG : AllE Try.prog (ents G)) (n : Nat) : AllP Try.prog an (pc G n) (pieces an (bodyOf Try.f75)) := by
    have h : pieces an (bodyOf Try.f75) = [] := by kernel_rfl
    rw [h]
    exact trivial
/-- What the function computes. -/
noncomputable def Does (G : Gs) (c : Cur) (r : Int × Cur) : Prop := ∃ n, main (R := AT × List Ob) G n c (fun r0 r1 => some (.one (.i r0), [.box [.l .u (Cur.b r1), .i (Cur.i r1), .i (Cur.h r1)]])) = some (.one (.i r.1), [.box [.l .u (Cur.b r.2), .i (Cur.i r.2), .i (Cur.h r.2)]])
theorem eq (G : Gs) (n : Nat) (c : Cur) : den tb (orcOf (ents G)) (pc G n) an (bodyOf Try.f75) ⟨argsD 0 [.one (.p 0 0)], [.box [.l .u (Cur.b c), .i (Cur.i c), .i (Cur.h c)]]⟩ (atEnd (finF tb an [.tmp 2])) = main (R := AT × List Ob) G n c (fun r0 r1 => some (.one (.i r0), [.box [.l .u (Cur.b r1), .i (Cur.i r1), .i (Cur.h r1)]])) := by kernel_rfl
theorem ok {G : Gs} (hG : AllE Try.prog (ents G)) {g : Cur → Option (Int × Cur)} (hg : ∀ c r, g c = some r → Does G c r) : EntOK Try.prog (ent g) := fun R xs H K r hc => by
  simp only [ent] at hc
  split at hc
  · rename_i h h2 h3
    obtain ⟨r, q1, q2⟩ := bind_some hc
    obtain ⟨n, q3⟩ := hg (Cur.mk h h2 h3) _ q1
    exact ⟨_, _, q2, fn_of_den (pc := pc G n) (an := an) (xs := [.one (.p 0 0)]) (H := [.box [.l .u h, .i h2, .i h3]]) (fin := finF tb an [.tmp 2]) mixed tb_ok (orc_ok hG) (fn := Try.f75) (c := bodyOf Try.f75) Try.func75 (by kernel_rfl) (by kernel_rfl) (by kernel_rfl) (by kernel_rfl) (by kernel_rfl) (rs := [.tmp 2]) (by kernel_rfl) (.inl rfl) (allp hG n) ((eq G n (Cur.mk h h2 h3)).trans q3)⟩
  · cases hc
end s_l1Byte
namespace s_l1Below
structure Gs where
  s_l1Byte : Cur → Option (Int × Cur)
noncomputable def ents (G : Gs) : List Ent := [s_l1Byte.ent G.s_l1Byte]
noncomputable def main {R : Type} (G : Gs) (n : Nat) (c : Cur) (n1 : Int) (K : Int → Cur → Option R) : Option R :=
  bif decide (n1 ≤ 0) then
    (K 0 c)
  else
    bif decide (n1 ≤ 256) then
      (
      Option.bind (G.s_l1Byte c) fun r =>
      Option.bind (bif decide (0 ≤ r.1) && decide (0 < n1) then some (r.1 % n1) else none) fun q =>
      K q r.2
      )
    else
      Option.bind (G.s_l1Byte c) fun r2 =>
      Option.bind (G.s_l1Byte r2.2) fun r3 =>
      Option.bind (G.s_l1Byte r3.2) fun r4 =>
      Option.bind (G.s_l1Byte r4.2) fun r5 =>
      Option.bind (bif decide (0 ≤ (wr ((wr ((wr ((wr (r2.1 * 16777216)) + (wr (r3.1 * 65536)))) + (wr (r4.1 * 256)))) + r5.1))) && decide (0 < n1) then some ((wr ((wr ((wr ((wr (r2.1 * 16777216)) + (wr (r3.1 * 65536)))) + (wr (r4.1 * 256)))) + r5.1)) % n1) else none) fun q2 =>
      K q2 r5.2
noncomputable def pc (_ : Gs) (_ : Nat) : Pcs := ⟨fun _ _ _ _ => none, fun _ _ _ _ => none, fun _ _ _ _ => none⟩
noncomputable def an : Ann := ⟨37, 1, [], [], [4], []⟩
theorem allp {G : Gs} (hG : AllE Try.prog (ents G)) (n : Nat) : AllP Try.prog an (pc G n) (pieces an (bodyOf Try.f55)) := by
    have h : pieces an (bodyOf Try.f55) = [] := by kernel_rfl
    rw [h]
    exact trivial
/-- What the function computes. -/
noncomputable def Does (G : Gs) (c : Cur) (n1 : Int) (r : Int × Cur) : Prop := ∃ n, main (R := AT × List Ob) G n c n1 (fun r0 r1 => some (.one (.i r0), [.box [.l .u (Cur.b r1), .i (Cur.i r1), .i (Cur.h r1)]])) = some (.one (.i r.1), [.box [.l .u (Cur.b r.2), .i (Cur.i r.2), .i (Cur.h r.2)]])
theorem eq (G : Gs) (n : Nat) (c : Cur) (n1 : Int) : den tb (orcOf (ents G)) (pc G n) an (bodyOf Try.f55) ⟨argsD 0 [.one (.p 0 0), .one (.i n1)], [.box [.l .u (Cur.b c), .i (Cur.i c), .i (Cur.h c)]]⟩ (atEnd (finF tb an [.tmp 4])) = main (R := AT × List Ob) G n c n1 (fun r0 r1 => some (.one (.i r0), [.box [.l .u (Cur.b r1), .i (Cur.i r1), .i (Cur.h r1)]])) := by kernel_rfl
theorem ok {G : Gs} (hG : AllE Try.prog (ents G)) {g : Cur → Int → Option (Int × Cur)} (hg : ∀ c n1 r, g c n1 = some r → Does G c n1 r) : EntOK Try.prog (ent g) := fun R xs H K r hc => by
  simp only [ent] at hc
  split at hc
  · rename_i a h h2 h3
    obtain ⟨r, q1, q2⟩ := bind_some hc
    obtain ⟨n, q3⟩ := hg (Cur.mk h h2 h3) a _ q1
    exact ⟨_, _, q2, fn_of_den (pc := pc G n) (an := an) (xs := [.one (.p 0 0), .one (.i a)]) (H := [.box [.l .u h, .i h2, .i h3]]) (fin := finF tb an [.tmp 4]) mixed tb_ok (orc_ok hG) (fn := Try.f55) (c := bodyOf Try.f55) Try.func55 (by kernel_rfl) (by kernel_rfl) (by kernel_rfl) (by kernel_rfl) (by kernel_rfl) (rs := [.tmp 4]) (by kernel_rfl) (.inl rfl) (allp hG n) ((eq G n (Cur.mk h h2 h3) a).trans q3)⟩
  · cases hc
end s_l1Below
namespace s_l1Once
structure Gs where
  s_l1Below : Cur → Int → Option (Int × Cur)
noncomputable def ents (G : Gs) : List Ent := [s_l1Below.ent G.s_l1Below]
noncomputable def main {R : Type} (G : Gs) (n : Nat) (c : Cur) (n1 : Int) (K : Bool → Cur → Option R) : Option R :=
  Option.bind (G.s_l1Below c n1) fun r =>
  K (decide (r.1 = 0)) r.2
noncomputable def pc (_ : Gs) (_ : Nat) : Pcs := ⟨fun _ _ _ _ => none, fun _ _ _ _ => none, fun _ _ _ _ => none⟩
noncomputable def an : Ann := ⟨9, 1, [], [], [4], []⟩
theorem allp {G : Gs} (hG : AllE Try.prog (ents G)) (n : Nat) : AllP Try.prog an (pc G n) (pieces an (bodyOf Try.f57)) := by
    have h : pieces an (bodyOf Try.f57) = [] := by kernel_rfl
    rw [h]
    exact trivial
/-- What the function computes. -/
noncomputable def Does (G : Gs) (c : Cur) (n1 : Int) (r : Bool × Cur) : Prop := ∃ n, main (R := AT × List Ob) G n c n1 (fun r0 r1 => some (.one (.b r0), [.box [.l .u (Cur.b r1), .i (Cur.i r1), .i (Cur.h r1)]])) = some (.one (.b r.1), [.box [.l .u (Cur.b r.2), .i (Cur.i r.2), .i (Cur.h r.2)]])
theorem eq (G : Gs) (n : Nat) (c : Cur) (n1 : Int) : den tb (orcOf (ents G)) (pc G n) an (bodyOf Try.f57) ⟨argsD 0 [.one (.p 0 0), .one (.i n1)], [.box [.l .u (Cur.b c), .i (Cur.i c), .i (Cur.h c)]]⟩ (atEnd (finF tb an [.tmp 4])) = main (R := AT × List Ob) G n c n1 (fun r0 r1 => some (.one (.b r0), [.box [.l .u (Cur.b r1), .i (Cur.i r1), .i (Cur.h r1)]])) := by kernel_rfl
theorem ok {G : Gs} (hG : AllE Try.prog (ents G)) {g : Cur → Int → Option (Bool × Cur)} (hg : ∀ c n1 r, g c n1 = some r → Does G c n1 r) : EntOK Try.prog (ent g) := fun R xs H K r hc => by
  simp only [ent] at hc
  split at hc
  · rename_i a h h2 h3
    obtain ⟨r, q1, q2⟩ := bind_some hc
    obtain ⟨n, q3⟩ := hg (Cur.mk h h2 h3) a _ q1
    exact ⟨_, _, q2, fn_of_den (pc := pc G n) (an := an) (xs := [.one (.p 0 0), .one (.i a)]) (H := [.box [.l .u h, .i h2, .i h3]]) (fin := finF tb an [.tmp 4]) mixed tb_ok (orc_ok hG) (fn := Try.f57) (c := bodyOf Try.f57) Try.func57 (by kernel_rfl) (by kernel_rfl) (by kernel_rfl) (by kernel_rfl) (by kernel_rfl) (rs := [.tmp 4]) (by kernel_rfl) (.inl rfl) (allp hG n) ((eq G n (Cur.mk h h2 h3) a).trans q3)⟩
  · cases hc
end s_l1Once
namespace s_l1New
structure Gs where
  none_ : Unit
noncomputable def ents (_ : Gs) : List Ent := []
noncomputable def b3 {R : Type} (G : Gs) (n : Nat) (code : List Int) (h : Int) (i : Int) (nx : List Int → Int → Int → Option R) (k0 : List Int → Int → Option R) : Option R :=
  bif decide (i < (List.length code : Int)) then
    (
    bif decide (i < 4000) then
      (
      Option.bind (ix code i) fun e =>
      nx code (Abs.bitsI .and .i64 (wr ((wr ((wr (h * 131)) + e)) + 7)) 1073741823) (wr (i + 1))
      )
    else
      k0 code h
    )
  else
    k0 code h
noncomputable def l3 {R : Type} (G : Gs) (n m : Nat) (code : List Int) (h : Int) (i : Int) (k0 : List Int → Int → Option R) : Option R := iter (fun (v : List Int × Int × Int) nx => b3 G n v.1 v.2.1 v.2.2 (fun y0 y1 y2 => nx (y0, y1, y2)) k0) m (code, h, i)
noncomputable def main {R : Type} (G : Gs) (n : Nat) (code : List Int) (K : Cur → Option R) : Option R :=
  l3 G n n code (wr (124929 + (List.length code : Int))) 0
    (fun code2 h => K (Cur.mk code2 0 h))
noncomputable def dl3 (G : Gs) (n m : Nat) (R : Type) (st : St) (K : Kt R) : Option R := match st with
  | ⟨[(0, .one (.l .u code)), (3, .one (.i h)), (4, .one (.i i))], []⟩ => l3 G n m code h i (fun code h => K (.exit 0) ⟨[(0, .one (.l .u code)), (3, .one (.i h))], []⟩)
  | _ => none
noncomputable def pc (G : Gs) (n : Nat) : Pcs := ⟨fun R id st K => bif Nat.beq id 3 then dl3 G n n R st K else none, fun _ _ _ _ => none, fun _ _ _ _ => none⟩
noncomputable def an : Ann := ⟨32, 0, [(3, [0, 3, 4])], [], [2], []⟩
theorem s3 (G : Gs) (n m : Nat) (R : Type) (code : List Int) (h : Int) (i : Int) (K : Kt R) : den tb (orcOf (ents G)) (pc G n) an (nthC [1, 1, 0, 1, 0, 0] (bodyOf Try.f53)) ⟨[(0, .one (.l .u code)), (3, .one (.i h)), (4, .one (.i i))], []⟩ (roundK an.refs [0, 3, 4] ⟨[0, 3], [2], [(0, [0, 3])]⟩ (fun st => dl3 G n m R st K) K) = dl3 G n (m + 1) R ⟨[(0, .one (.l .u code)), (3, .one (.i h)), (4, .one (.i i))], []⟩ K := by kernel_rfl
theorem pl3 {G : Gs} (hG : AllE Try.prog (ents G)) (n : Nat) : ∀ m, PieceOK Try.prog an (.loop (nthC [1, 1, 0, 1, 0, 0] (bodyOf Try.f53))) (dl3 G n m) := by
  refine loop_piece mixed tb_ok (orc_ok hG) (pc := pc G n) (lv := [0, 3, 4]) (o := ⟨[0, 3], [2], [(0, [0, 3])]⟩) (by
    have h : pieces an (nthC [1, 1, 0, 1, 0, 0] (bodyOf Try.f53)) = [] := by kernel_rfl
    rw [h]
    exact trivial) (fun R st K => ?_) (fun m R st K r h => ?_)
  · unfold dl3; split <;> rfl
  · have e := h
    unfold dl3 at e
    split at e
    · rename_i x0 x1 x2; exact (s3 G n m R x0 x1 x2 K).trans h
    · cases e
theorem allp {G : Gs} (hG : AllE Try.prog (ents G)) (n : Nat) : AllP Try.prog an (pc G n) (pieces an (bodyOf Try.f53)) := by
    have h : pieces an (bodyOf Try.f53) = [(1, 3, .loop (nthC [1, 1, 0, 1, 0, 0] (bodyOf Try.f53)))] := by kernel_rfl
    rw [h]
    exact ⟨pl3 hG n n, trivial⟩
/-- What the function computes. -/
noncomputable def Does (G : Gs) (code : List Int) (r : Cur) : Prop := ∃ n, main (R := AT × List Ob) G n code (fun r0 => some (.one (.p 0 0), [.box [.l .u (Cur.b r0), .i (Cur.i r0), .i (Cur.h r0)]])) = some (.one (.p 0 0), [.box [.l .u (Cur.b r), .i (Cur.i r), .i (Cur.h r)]])
theorem eq (G : Gs) (n : Nat) (code : List Int) : den tb (orcOf (ents G)) (pc G n) an (bodyOf Try.f53) ⟨argsD 0 [.one (.l .u code)], []⟩ (atEnd (finR tb an [.tmp 2])) = main (R := AT × List Ob) G n code (fun r0 => some (.one (.p 0 0), [.box [.l .u (Cur.b r0), .i (Cur.i r0), .i (Cur.h r0)]])) := by kernel_rfl
theorem ok {G : Gs} (hG : AllE Try.prog (ents G)) {g : List Int → Option (Cur)} (hg : ∀ code r, g code = some r → Does G code r) : EntOK Try.prog (ent g) := fun R xs H K r hc => by
  simp only [ent] at hc
  split at hc
  · rename_i a
    obtain ⟨r, q1, q2⟩ := bind_some hc
    obtain ⟨n, q3⟩ := hg a _ q1
    exact ⟨_, _, q2, fn_of_den (pc := pc G n) (an := an) (xs := [.one (.l .u a)]) (H := []) (fin := finR tb an [.tmp 2]) mixed tb_ok (orc_ok hG) (fn := Try.f53) (c := bodyOf Try.f53) Try.func53 (by kernel_rfl) (by kernel_rfl) (by kernel_rfl) (by kernel_rfl) (by kernel_rfl) (rs := [.tmp 2]) (by kernel_rfl) (.inr rfl) (allp hG n) ((eq G n a).trans q3)⟩
  · cases hc
end s_l1New
namespace s_l31Marks_o
structure Gs where
  s_l1Below : Cur → Int → Option (Int × Cur)
noncomputable def ents (G : Gs) : List Ent := [s_l1Below.ent G.s_l1Below]
noncomputable def b3 {R : Type} (G : Gs) (n : Nat) (n1 : Int) (i : Int) (h0 : List Int) (h02 : Int) (h03 : Int) (h1 : List Int) (nx : Int → Int → List Int → Int → Int → List Int → Option R) (k0 : List Int → Int → Int → List Int → Option R) : Option R :=
  bif decide (i < n1) then
    (
    Option.bind (G.s_l1Below (Cur.mk h0 h02 h03) 8) fun r =>
    Option.bind (lim (h1 ++ [r.1])) fun zs =>
    nx n1 (wr (i + 1)) (Cur.b r.2) (Cur.i r.2) (Cur.h r.2) zs
    )
  else
    k0 h0 h02 h03 h1
noncomputable def l3 {R : Type} (G : Gs) (n m : Nat) (n1 : Int) (i : Int) (h0 : List Int) (h02 : Int) (h03 : Int) (h1 : List Int) (k0 : List Int → Int → Int → List Int → Option R) : Option R := iter (fun (v : Int × Int × List Int × Int × Int × List Int) nx => b3 G n v.1 v.2.1 v.2.2.1 v.2.2.2.1 v.2.2.2.2.1 v.2.2.2.2.2 (fun y0 y1 y2 y3 y4 y5 => nx (y0, y1, y2, y3, y4, y5)) k0) m (n1, i, h0, h02, h03, h1)
noncomputable def main {R : Type} (G : Gs) (n : Nat) (c : Cur) (n1 : Int) (K : List Int → Cur → Option R) : Option R :=
  l3 G n n n1 0 (Cur.b c) (Cur.i c) (Cur.h c) []
    (fun h0 h02 h03 h1 => K h1 (Cur.mk h0 h02 h03))
noncomputable def dl3 (G : Gs) (n m : Nat) (R : Type) (st : St) (K : Kt R) : Option R := match st with
  | ⟨[(0, .one (.p 0 0)), (1, .one (.i n1)), (5, .one (.o 1)), (6, .one (.i i))], [.box [.l .u h0, .i h02, .i h03], .row .i 0 h1]⟩ => l3 G n m n1 i h0 h02 h03 h1 (fun h0 h02 h03 h1 => K (.exit 0) ⟨[(5, .one (.o 1))], [.box [.l .u h0, .i h02, .i h03], .row .i 0 h1]⟩)
  | _ => none
noncomputable def pc (G : Gs) (n : Nat) : Pcs := ⟨fun R id st K => bif Nat.beq id 3 then dl3 G n n R st K else none, fun _ _ _ _ => none, fun _ _ _ _ => none⟩
noncomputable def an : Ann := ⟨19, 1, [(3, [0, 1, 5, 6])], [], [4], []⟩
theorem s3 (G : Gs) (n m : Nat) (R : Type) (n1 : Int) (i : Int) (h0 : List Int) (h02 : Int) (h03 : Int) (h1 : List Int) (K : Kt R) : den tb (orcOf (ents G)) (pc G n) an (nthC [1, 1, 0, 1, 0, 0] (bodyOf Try.f56)) ⟨[(0, .one (.p 0 0)), (1, .one (.i n1)), (5, .one (.o 1)), (6, .one (.i i))], [.box [.l .u h0, .i h02, .i h03], .row .i 0 h1]⟩ (roundK an.refs [0, 1, 5, 6] ⟨[5], [4], [(0, [5])]⟩ (fun st => dl3 G n m R st K) K) = dl3 G n (m + 1) R ⟨[(0, .one (.p 0 0)), (1, .one (.i n1)), (5, .one (.o 1)), (6, .one (.i i))], [.box [.l .u h0, .i h02, .i h03], .row .i 0 h1]⟩ K := by kernel_rfl
theorem pl3 {G : Gs} (hG : AllE Try.prog (ents G)) (n : Nat) : ∀ m, PieceOK Try.prog an (.loop (nthC [1, 1, 0, 1, 0, 0] (bodyOf Try.f56))) (dl3 G n m) := by
  refine loop_piece mixed tb_ok (orc_ok hG) (pc := pc G n) (lv := [0, 1, 5, 6]) (o := ⟨[5], [4], [(0, [5])]⟩) (by
    have h : pieces an (nthC [1, 1, 0, 1, 0, 0] (bodyOf Try.f56)) = [] := by kernel_rfl
    rw [h]
    exact trivial) (fun R st K => ?_) (fun m R st K r h => ?_)
  · unfold dl3; split <;> rfl
  · have e := h
    unfold dl3 at e
    split at e
    · rename_i x0 x1 x2 x3 x4 x5; exact (s3 G n m R x0 x1 x2 x3 x4 x5 K).trans h
    · cases e
theorem allp {G : Gs} (hG : AllE Try.prog (ents G)) (n : Nat) : AllP Try.prog an (pc G n) (pieces an (bodyOf Try.f56)) := by
    have h : pieces an (bodyOf Try.f56) = [(1, 3, .loop (nthC [1, 1, 0, 1, 0, 0] (bodyOf Try.f56)))] := by kernel_rfl
    rw [h]
    exact ⟨pl3 hG n n, trivial⟩
/-- What the function computes. -/
noncomputable def Does (G : Gs) (c : Cur) (n1 : Int) (r : List Int × Cur) : Prop := ∃ n, main (R := AT × List Ob) G n c n1 (fun r0 r1 => some (.one (.o 1), [.box [.l .u (Cur.b r1), .i (Cur.i r1), .i (Cur.h r1)], .row .i 0 r0])) = some (.one (.o 1), [.box [.l .u (Cur.b r.2), .i (Cur.i r.2), .i (Cur.h r.2)], .row .i 0 r.1])
theorem eq (G : Gs) (n : Nat) (c : Cur) (n1 : Int) : den tb (orcOf (ents G)) (pc G n) an (bodyOf Try.f56) ⟨argsD 0 [.one (.p 0 0), .one (.i n1)], [.box [.l .u (Cur.b c), .i (Cur.i c), .i (Cur.h c)]]⟩ (atEnd (finR tb an [.tmp 4])) = main (R := AT × List Ob) G n c n1 (fun r0 r1 => some (.one (.o 1), [.box [.l .u (Cur.b r1), .i (Cur.i r1), .i (Cur.h r1)], .row .i 0 r0])) := by kernel_rfl
theorem ok {G : Gs} (hG : AllE Try.prog (ents G)) {g : Cur → Int → Option (List Int × Cur)} (hg : ∀ c n1 r, g c n1 = some r → Does G c n1 r) : EntOK Try.prog (ent g) := fun R xs H K r hc => by
  simp only [ent] at hc
  split at hc
  · rename_i a h h2 h3
    obtain ⟨r, q1, q2⟩ := bind_some hc
    obtain ⟨n, q3⟩ := hg (Cur.mk h h2 h3) a _ q1
    exact ⟨_, _, q2, fn_of_den (pc := pc G n) (an := an) (xs := [.one (.p 0 0), .one (.i a)]) (H := [.box [.l .u h, .i h2, .i h3]]) (fin := finR tb an [.tmp 4]) mixed tb_ok (orc_ok hG) (fn := Try.f56) (c := bodyOf Try.f56) Try.func56 (by kernel_rfl) (by kernel_rfl) (by kernel_rfl) (by kernel_rfl) (by kernel_rfl) (rs := [.tmp 4]) (by kernel_rfl) (.inr rfl) (allp hG n) ((eq G n (Cur.mk h h2 h3) a).trans q3)⟩
  · cases hc
end s_l31Marks_o
namespace s_l31Draw
structure Gs where
  s_l1Below : Cur → Int → Option (Int × Cur)
  s_l1Once : Cur → Int → Option (Bool × Cur)
  s_l31Draw : Cur → Int → Option (Fm × Cur)
noncomputable def ents (G : Gs) : List Ent := [s_l1Below.ent G.s_l1Below, s_l1Once.ent G.s_l1Once, ent G.s_l31Draw]
noncomputable def c3 {R : Type} (G : Gs) (n : Nat) (h0 : List Int) (h02 : Int) (h03 : Int) (h1 : Int) (h12 : Int) (h2 : List Fm) (k0 : List Int → Int → Int → Int → Int → List Fm → Option R) : Option R :=
  Option.bind (G.s_l1Once (Cur.mk h0 h02 h03) 6) fun r =>
  bif r.1 then
    (k0 (Cur.b r.2) (Cur.i r.2) (Cur.h r.2) 1 0 [])
  else
    Option.bind (G.s_l1Below r.2 3) fun r2 =>
    k0 (Cur.b r2.2) (Cur.i r2.2) (Cur.h r2.2) 2 r2.1 []
noncomputable def c8 {R : Type} (G : Gs) (n : Nat) (d : Int) (h0 : List Int) (h02 : Int) (h03 : Int) (h1 : Int) (h12 : Int) (h2 : List Fm) (h3 : Int) (h32 : Int) (h4 : List Fm) (k0 : List Int → Int → Int → Int → Int → List Fm → Int → Int → List Fm → Option R) : Option R :=
  Option.bind (G.s_l31Draw (Cur.mk h0 h02 h03) (wr (d - 1))) fun r2 =>
  Option.bind (lim (h4 ++ [(Fm.mk (Fm.kind r2.1) (Fm.prop r2.1) (Fm.kids r2.1))])) fun zs2 =>
  k0 (Cur.b r2.2) (Cur.i r2.2) (Cur.h r2.2) h1 h12 h2 h3 h32 zs2
noncomputable def main {R : Type} (G : Gs) (n : Nat) (c : Cur) (d : Int) (K : Fm → Cur → Option R) : Option R :=
  Option.bind (G.s_l1Below c 7) fun r =>
  bif decide (d ≤ 0) then
    (
    c3 G n (Cur.b r.2) (Cur.i r.2) (Cur.h r.2) 0 0 []
      (fun h0 h02 h03 h1 h12 h2 => K (Fm.mk h1 h12 h2) (Cur.mk h0 h02 h03))
    )
  else
    bif decide ((wr (1 + r.1)) ≤ 2) then
      (
      c3 G n (Cur.b r.2) (Cur.i r.2) (Cur.h r.2) 0 0 []
        (fun h04 h022 h032 h13 h122 h22 => K (Fm.mk h13 h122 h22) (Cur.mk h04 h022 h032))
      )
    else
      Option.bind (G.s_l31Draw r.2 (wr (d - 1))) fun r2 =>
      bif decide ((wr (1 + r.1)) = 4) then
        (
        c8 G n d (Cur.b r2.2) (Cur.i r2.2) (Cur.h r2.2) 0 0 [] (wr (1 + r.1)) 0 [(Fm.mk (Fm.kind r2.1) (Fm.prop r2.1) (Fm.kids r2.1))]
          (fun h05 h023 h033 h14 h123 h23 h3 h32 h4 => K (Fm.mk h3 h32 h4) (Cur.mk h05 h023 h033))
        )
      else
        bif decide ((wr (1 + r.1)) = 5) then
          (
          c8 G n d (Cur.b r2.2) (Cur.i r2.2) (Cur.h r2.2) 0 0 [] (wr (1 + r.1)) 0 [(Fm.mk (Fm.kind r2.1) (Fm.prop r2.1) (Fm.kids r2.1))]
            (fun h06 h024 h034 h15 h124 h24 h33 h322 h42 => K (Fm.mk h33 h322 h42) (Cur.mk h06 h024 h034))
          )
        else
          bif decide ((wr (1 + r.1)) = 7) then
            (
            c8 G n d (Cur.b r2.2) (Cur.i r2.2) (Cur.h r2.2) 0 0 [] (wr (1 + r.1)) 0 [(Fm.mk (Fm.kind r2.1) (Fm.prop r2.1) (Fm.kids r2.1))]
              (fun h07 h025 h035 h16 h125 h25 h34 h323 h43 => K (Fm.mk h34 h323 h43) (Cur.mk h07 h025 h035))
            )
          else
            K (Fm.mk (wr (1 + r.1)) 0 [(Fm.mk (Fm.kind r2.1) (Fm.prop r2.1) (Fm.kids r2.1))]) r2.2
noncomputable def dc3 (G : Gs) (n : Nat) (R : Type) (st : St) (K : Kt R) : Option R := match st with
  | ⟨[(0, .one (.p 0 0)), (4, .one (.p 1 0))], [.box [.l .u h0, .i h02, .i h03], .box [.i h1, .i h12, .o 2], .row (.n 2) 0 h2]⟩ => c3 G n h0 h02 h03 h1 h12 h2 (fun h0 h02 h03 h1 h12 h2 => K .ret ⟨[(4, .one (.p 1 0))], [.box [.l .u h0, .i h02, .i h03], .box [.i h1, .i h12, .o 2], .row (.n 2) 0 h2]⟩)
  | _ => none
noncomputable def dc8 (G : Gs) (n : Nat) (R : Type) (st : St) (K : Kt R) : Option R := match st with
  | ⟨[(0, .one (.p 0 0)), (1, .one (.i d)), (4, .one (.p 1 0)), (6, .one (.p 3 0))], [.box [.l .u h0, .i h02, .i h03], .box [.i h1, .i h12, .o 2], .row (.n 2) 0 h2, .box [.i h3, .i h32, .o 4], .row (.n 2) 0 h4]⟩ => c8 G n d h0 h02 h03 h1 h12 h2 h3 h32 h4 (fun h0 h02 h03 h1 h12 h2 h3 h32 h4 => K .normal ⟨[(4, .one (.p 1 0)), (6, .one (.p 3 0))], [.box [.l .u h0, .i h02, .i h03], .box [.i h1, .i h12, .o 2], .row (.n 2) 0 h2, .box [.i h3, .i h32, .o 4], .row (.n 2) 0 h4]⟩)
  | _ => none
noncomputable def pc (G : Gs) (n : Nat) : Pcs := ⟨fun _ _ _ _ => none, fun R id st K => bif Nat.beq id 3 then dc3 G n R st K else bif Nat.beq id 8 then dc8 G n R st K else none, fun _ _ _ _ => none⟩
noncomputable def an : Ann := ⟨49, 1, [], [(3, [0, 4]), (8, [0, 1, 4, 6])], [4], [(8, ⟨[([2, 3, 4, 5, 0, 1, 6, 7, 8, 9], [5, 7, 9], [1])], [5, 7, 9], [], [1, 2], []⟩)]⟩
theorem s3 (G : Gs) (n : Nat) (R : Type) (h0 : List Int) (h02 : Int) (h03 : Int) (h1 : Int) (h12 : Int) (h2 : List Fm) (K : Kt R) : den tb (orcOf (ents G)) (pc G n) an (nthC [1, 1, 0, 1, 0] (bodyOf Try.f74)) ⟨[(0, .one (.p 0 0)), (4, .one (.p 1 0))], [.box [.l .u h0, .i h02, .i h03], .box [.i h1, .i h12, .o 2], .row (.n 2) 0 h2]⟩ (outK an.refs ⟨[0, 1, 4, 5], [4], []⟩ K) = dc3 G n R ⟨[(0, .one (.p 0 0)), (4, .one (.p 1 0))], [.box [.l .u h0, .i h02, .i h03], .box [.i h1, .i h12, .o 2], .row (.n 2) 0 h2]⟩ K := by kernel_rfl
theorem pc3 {G : Gs} (hG : AllE Try.prog (ents G)) {n : Nat} : PieceOK Try.prog an (nthC [1, 1, 0, 1, 0] (bodyOf Try.f74)) (dc3 G n) := by
  refine cut_piece mixed tb_ok (orc_ok hG) (pc := pc G n) (o := ⟨[0, 1, 4, 5], [4], []⟩) (by
    have h : pieces an (nthC [1, 1, 0, 1, 0] (bodyOf Try.f74)) = [] := by kernel_rfl
    rw [h]
    exact trivial) (fun R st K r h => ?_)
  have e := h
  unfold dc3 at e
  split at e
  · rename_i x0 x1 x2 x3 x4 x5; exact (s3 G n R x0 x1 x2 x3 x4 x5 K).trans h
  · cases e
theorem s8 (G : Gs) (n : Nat) (R : Type) (d : Int) (h0 : List Int) (h02 : Int) (h03 : Int) (h1 : Int) (h12 : Int) (h2 : List Fm) (h3 : Int) (h32 : Int) (h4 : List Fm) (K : Kt R) : den tb (orcOf (ents G)) (pc G n) an (nthC [1, 1, 1, 1, 0, 1, 0] (bodyOf Try.f74)) ⟨[(0, .one (.p 0 0)), (1, .one (.i d)), (4, .one (.p 1 0)), (6, .one (.p 3 0))], [.box [.l .u h0, .i h02, .i h03], .box [.i h1, .i h12, .o 2], .row (.n 2) 0 h2, .box [.i h3, .i h32, .o 4], .row (.n 2) 0 h4]⟩ (outK an.refs ⟨[4, 6], [4], []⟩ K) = dc8 G n R ⟨[(0, .one (.p 0 0)), (1, .one (.i d)), (4, .one (.p 1 0)), (6, .one (.p 3 0))], [.box [.l .u h0, .i h02, .i h03], .box [.i h1, .i h12, .o 2], .row (.n 2) 0 h2, .box [.i h3, .i h32, .o 4], .row (.n 2) 0 h4]⟩ K := by kernel_rfl
theorem pc8 {G : Gs} (hG : AllE Try.prog (ents G)) {n : Nat} : PieceOK Try.prog an (nthC [1, 1, 1, 1, 0, 1, 0] (bodyOf Try.f74)) (dc8 G n) := by
  refine cut_piece mixed tb_ok (orc_ok hG) (pc := pc G n) (o := ⟨[4, 6], [4], []⟩) (by
    have h : pieces an (nthC [1, 1, 1, 1, 0, 1, 0] (bodyOf Try.f74)) = [] := by kernel_rfl
    rw [h]
    exact trivial) (fun R st K r h => ?_)
  have e := h
  unfold dc8 at e
  split at e
  · rename_i x0 x1 x2 x3 x4 x5 x6 x7 x8 x9; exact (s8 G n R x0 x1 x2 x3 x4 x5 x6 x7 x8 x9 K).trans h
  · cases e
theorem allp {G : Gs} (hG : AllE Try.prog (ents G)) (n : Nat) : AllP Try.prog an (pc G n) (pieces an (bodyOf Try.f74)) := by
    have h : pieces an (bodyOf Try.f74) = [(0, 3, nthC [1, 1, 0, 1, 0] (bodyOf Try.f74)), (0, 8, nthC [1, 1, 1, 1, 0, 1, 0] (bodyOf Try.f74))] := by kernel_rfl
    rw [h]
    exact ⟨pc3 hG, ⟨pc8 hG, trivial⟩⟩
/-- What the function computes. -/
noncomputable def Does (G : Gs) (c : Cur) (d : Int) (r : Fm × Cur) : Prop := ∃ n, main (R := AT × List Ob) G n c d (fun r0 r1 => some (.agg [.i (Fm.kind r0), .i (Fm.prop r0), .l (.n 2) (Fm.kids r0)], [.box [.l .u (Cur.b r1), .i (Cur.i r1), .i (Cur.h r1)]])) = some (.agg [.i (Fm.kind r.1), .i (Fm.prop r.1), .l (.n 2) (Fm.kids r.1)], [.box [.l .u (Cur.b r.2), .i (Cur.i r.2), .i (Cur.h r.2)]])
theorem eq (G : Gs) (n : Nat) (c : Cur) (d : Int) : den tb (orcOf (ents G)) (pc G n) an (bodyOf Try.f74) ⟨argsD 0 [.one (.p 0 0), .one (.i d)], [.box [.l .u (Cur.b c), .i (Cur.i c), .i (Cur.h c)]]⟩ (atEnd (finF tb an [.cell 4 38])) = main (R := AT × List Ob) G n c d (fun r0 r1 => some (.agg [.i (Fm.kind r0), .i (Fm.prop r0), .l (.n 2) (Fm.kids r0)], [.box [.l .u (Cur.b r1), .i (Cur.i r1), .i (Cur.h r1)]])) := by kernel_rfl
theorem ok {G : Gs} (hG : AllE Try.prog (ents G)) {g : Cur → Int → Option (Fm × Cur)} (hg : ∀ c d r, g c d = some r → Does G c d r) : EntOK Try.prog (ent g) := fun R xs H K r hc => by
  simp only [ent] at hc
  split at hc
  · rename_i a h h2 h3
    obtain ⟨r, q1, q2⟩ := bind_some hc
    obtain ⟨n, q3⟩ := hg (Cur.mk h h2 h3) a _ q1
    exact ⟨_, _, q2, fn_of_den (pc := pc G n) (an := an) (xs := [.one (.p 0 0), .one (.i a)]) (H := [.box [.l .u h, .i h2, .i h3]]) (fin := finF tb an [.cell 4 38]) mixed tb_ok (orc_ok hG) (fn := Try.f74) (c := bodyOf Try.f74) Try.func74 (by kernel_rfl) (by kernel_rfl) (by kernel_rfl) (by kernel_rfl) (by kernel_rfl) (rs := [.cell 4 38]) (by kernel_rfl) (.inl rfl) (allp hG n) ((eq G n (Cur.mk h h2 h3) a).trans q3)⟩
  · cases hc
end s_l31Draw
namespace s_l31Draw_o
structure Gs where
  s_l1Below : Cur → Int → Option (Int × Cur)
  s_l1Once : Cur → Int → Option (Bool × Cur)
  s_l31Draw : Cur → Int → Option (Fm × Cur)
noncomputable def ents (G : Gs) : List Ent := [s_l1Below.ent G.s_l1Below, s_l1Once.ent G.s_l1Once, s_l31Draw.ent G.s_l31Draw]
noncomputable def c3 {R : Type} (G : Gs) (n : Nat) (h0 : List Int) (h02 : Int) (h03 : Int) (h1 : Int) (h12 : Int) (h2 : List Fm) (k0 : List Int → Int → Int → Int → Int → List Fm → Option R) : Option R :=
  Option.bind (G.s_l1Once (Cur.mk h0 h02 h03) 6) fun r =>
  bif r.1 then
    (k0 (Cur.b r.2) (Cur.i r.2) (Cur.h r.2) 1 0 [])
  else
    Option.bind (G.s_l1Below r.2 3) fun r2 =>
    k0 (Cur.b r2.2) (Cur.i r2.2) (Cur.h r2.2) 2 r2.1 []
noncomputable def c8 {R : Type} (G : Gs) (n : Nat) (d : Int) (h0 : List Int) (h02 : Int) (h03 : Int) (h1 : Int) (h12 : Int) (h2 : List Fm) (h3 : Int) (h32 : Int) (h4 : List Fm) (k0 : List Int → Int → Int → Int → Int → List Fm → Int → Int → List Fm → Option R) : Option R :=
  Option.bind (G.s_l31Draw (Cur.mk h0 h02 h03) (wr (d - 1))) fun r2 =>
  Option.bind (lim (h4 ++ [(Fm.mk (Fm.kind r2.1) (Fm.prop r2.1) (Fm.kids r2.1))])) fun zs2 =>
  k0 (Cur.b r2.2) (Cur.i r2.2) (Cur.h r2.2) h1 h12 h2 h3 h32 zs2
noncomputable def main {R : Type} (G : Gs) (n : Nat) (c : Cur) (d : Int) (K : Fm → Cur → Option R) : Option R :=
  Option.bind (G.s_l1Below c 7) fun r =>
  bif decide (d ≤ 0) then
    (
    c3 G n (Cur.b r.2) (Cur.i r.2) (Cur.h r.2) 0 0 []
      (fun h0 h02 h03 h1 h12 h2 => K (Fm.mk h1 h12 h2) (Cur.mk h0 h02 h03))
    )
  else
    bif decide ((wr (1 + r.1)) ≤ 2) then
      (
      c3 G n (Cur.b r.2) (Cur.i r.2) (Cur.h r.2) 0 0 []
        (fun h04 h022 h032 h13 h122 h22 => K (Fm.mk h13 h122 h22) (Cur.mk h04 h022 h032))
      )
    else
      Option.bind (G.s_l31Draw r.2 (wr (d - 1))) fun r2 =>
      bif decide ((wr (1 + r.1)) = 4) then
        (
        c8 G n d (Cur.b r2.2) (Cur.i r2.2) (Cur.h r2.2) 0 0 [] (wr (1 + r.1)) 0 [(Fm.mk (Fm.kind r2.1) (Fm.prop r2.1) (Fm.kids r2.1))]
          (fun h05 h023 h033 h14 h123 h23 h3 h32 h4 => K (Fm.mk h3 h32 h4) (Cur.mk h05 h023 h033))
        )
      else
        bif decide ((wr (1 + r.1)) = 5) then
          (
          c8 G n d (Cur.b r2.2) (Cur.i r2.2) (Cur.h r2.2) 0 0 [] (wr (1 + r.1)) 0 [(Fm.mk (Fm.kind r2.1) (Fm.prop r2.1) (Fm.kids r2.1))]
            (fun h06 h024 h034 h15 h124 h24 h33 h322 h42 => K (Fm.mk h33 h322 h42) (Cur.mk h06 h024 h034))
          )
        else
          bif decide ((wr (1 + r.1)) = 7) then
            (
            c8 G n d (Cur.b r2.2) (Cur.i r2.2) (Cur.h r2.2) 0 0 [] (wr (1 + r.1)) 0 [(Fm.mk (Fm.kind r2.1) (Fm.prop r2.1) (Fm.kids r2.1))]
              (fun h07 h025 h035 h16 h125 h25 h34 h323 h43 => K (Fm.mk h34 h323 h43) (Cur.mk h07 h025 h035))
            )
          else
            K (Fm.mk (wr (1 + r.1)) 0 [(Fm.mk (Fm.kind r2.1) (Fm.prop r2.1) (Fm.kids r2.1))]) r2.2
noncomputable def dc3 (G : Gs) (n : Nat) (R : Type) (st : St) (K : Kt R) : Option R := match st with
  | ⟨[(0, .one (.p 0 0)), (4, .one (.p 1 0))], [.box [.l .u h0, .i h02, .i h03], .box [.i h1, .i h12, .o 2], .row (.n 2) 0 h2]⟩ => c3 G n h0 h02 h03 h1 h12 h2 (fun h0 h02 h03 h1 h12 h2 => K .ret ⟨[(4, .one (.p 1 0))], [.box [.l .u h0, .i h02, .i h03], .box [.i h1, .i h12, .o 2], .row (.n 2) 0 h2]⟩)
  | _ => none
noncomputable def dc8 (G : Gs) (n : Nat) (R : Type) (st : St) (K : Kt R) : Option R := match st with
  | ⟨[(0, .one (.p 0 0)), (1, .one (.i d)), (4, .one (.p 1 0)), (6, .one (.p 3 0))], [.box [.l .u h0, .i h02, .i h03], .box [.i h1, .i h12, .o 2], .row (.n 2) 0 h2, .box [.i h3, .i h32, .o 4], .row (.n 2) 0 h4]⟩ => c8 G n d h0 h02 h03 h1 h12 h2 h3 h32 h4 (fun h0 h02 h03 h1 h12 h2 h3 h32 h4 => K .normal ⟨[(4, .one (.p 1 0)), (6, .one (.p 3 0))], [.box [.l .u h0, .i h02, .i h03], .box [.i h1, .i h12, .o 2], .row (.n 2) 0 h2, .box [.i h3, .i h32, .o 4], .row (.n 2) 0 h4]⟩)
  | _ => none
noncomputable def pc (G : Gs) (n : Nat) : Pcs := ⟨fun _ _ _ _ => none, fun R id st K => bif Nat.beq id 3 then dc3 G n R st K else bif Nat.beq id 8 then dc8 G n R st K else none, fun _ _ _ _ => none⟩
noncomputable def an : Ann := ⟨49, 1, [], [(3, [0, 4]), (8, [0, 1, 4, 6])], [4], [(8, ⟨[([2, 3, 4, 5, 0, 1, 6, 7, 8, 9], [5, 7, 9], [1])], [5, 7, 9], [], [1, 2], []⟩)]⟩
theorem s3 (G : Gs) (n : Nat) (R : Type) (h0 : List Int) (h02 : Int) (h03 : Int) (h1 : Int) (h12 : Int) (h2 : List Fm) (K : Kt R) : den tb (orcOf (ents G)) (pc G n) an (nthC [1, 1, 0, 1, 0] (bodyOf Try.f74)) ⟨[(0, .one (.p 0 0)), (4, .one (.p 1 0))], [.box [.l .u h0, .i h02, .i h03], .box [.i h1, .i h12, .o 2], .row (.n 2) 0 h2]⟩ (outK an.refs ⟨[0, 1, 4, 5], [4], []⟩ K) = dc3 G n R ⟨[(0, .one (.p 0 0)), (4, .one (.p 1 0))], [.box [.l .u h0, .i h02, .i h03], .box [.i h1, .i h12, .o 2], .row (.n 2) 0 h2]⟩ K := by kernel_rfl
theorem pc3 {G : Gs} (hG : AllE Try.prog (ents G)) {n : Nat} : PieceOK Try.prog an (nthC [1, 1, 0, 1, 0] (bodyOf Try.f74)) (dc3 G n) := by
  refine cut_piece mixed tb_ok (orc_ok hG) (pc := pc G n) (o := ⟨[0, 1, 4, 5], [4], []⟩) (by
    have h : pieces an (nthC [1, 1, 0, 1, 0] (bodyOf Try.f74)) = [] := by kernel_rfl
    rw [h]
    exact trivial) (fun R st K r h => ?_)
  have e := h
  unfold dc3 at e
  split at e
  · rename_i x0 x1 x2 x3 x4 x5; exact (s3 G n R x0 x1 x2 x3 x4 x5 K).trans h
  · cases e
theorem s8 (G : Gs) (n : Nat) (R : Type) (d : Int) (h0 : List Int) (h02 : Int) (h03 : Int) (h1 : Int) (h12 : Int) (h2 : List Fm) (h3 : Int) (h32 : Int) (h4 : List Fm) (K : Kt R) : den tb (orcOf (ents G)) (pc G n) an (nthC [1, 1, 1, 1, 0, 1, 0] (bodyOf Try.f74)) ⟨[(0, .one (.p 0 0)), (1, .one (.i d)), (4, .one (.p 1 0)), (6, .one (.p 3 0))], [.box [.l .u h0, .i h02, .i h03], .box [.i h1, .i h12, .o 2], .row (.n 2) 0 h2, .box [.i h3, .i h32, .o 4], .row (.n 2) 0 h4]⟩ (outK an.refs ⟨[4, 6], [4], []⟩ K) = dc8 G n R ⟨[(0, .one (.p 0 0)), (1, .one (.i d)), (4, .one (.p 1 0)), (6, .one (.p 3 0))], [.box [.l .u h0, .i h02, .i h03], .box [.i h1, .i h12, .o 2], .row (.n 2) 0 h2, .box [.i h3, .i h32, .o 4], .row (.n 2) 0 h4]⟩ K := by kernel_rfl
theorem pc8 {G : Gs} (hG : AllE Try.prog (ents G)) {n : Nat} : PieceOK Try.prog an (nthC [1, 1, 1, 1, 0, 1, 0] (bodyOf Try.f74)) (dc8 G n) := by
  refine cut_piece mixed tb_ok (orc_ok hG) (pc := pc G n) (o := ⟨[4, 6], [4], []⟩) (by
    have h : pieces an (nthC [1, 1, 1, 1, 0, 1, 0] (bodyOf Try.f74)) = [] := by kernel_rfl
    rw [h]
    exact trivial) (fun R st K r h => ?_)
  have e := h
  unfold dc8 at e
  split at e
  · rename_i x0 x1 x2 x3 x4 x5 x6 x7 x8 x9; exact (s8 G n R x0 x1 x2 x3 x4 x5 x6 x7 x8 x9 K).trans h
  · cases e
theorem allp {G : Gs} (hG : AllE Try.prog (ents G)) (n : Nat) : AllP Try.prog an (pc G n) (pieces an (bodyOf Try.f74)) := by
    have h : pieces an (bodyOf Try.f74) = [(0, 3, nthC [1, 1, 0, 1, 0] (bodyOf Try.f74)), (0, 8, nthC [1, 1, 1, 1, 0, 1, 0] (bodyOf Try.f74))] := by kernel_rfl
    rw [h]
    exact ⟨pc3 hG, ⟨pc8 hG, trivial⟩⟩
/-- What the function computes. -/
noncomputable def Does (G : Gs) (c : Cur) (d : Int) (r : Fm × Cur) : Prop := ∃ n, main (R := AT × List Ob) G n c d (fun r0 r1 => some (.agg [.i (Fm.kind r0), .i (Fm.prop r0), .o 1], [.box [.l .u (Cur.b r1), .i (Cur.i r1), .i (Cur.h r1)], .row (.n 2) 0 (Fm.kids r0)])) = some (.agg [.i (Fm.kind r.1), .i (Fm.prop r.1), .o 1], [.box [.l .u (Cur.b r.2), .i (Cur.i r.2), .i (Cur.h r.2)], .row (.n 2) 0 (Fm.kids r.1)])
theorem eq (G : Gs) (n : Nat) (c : Cur) (d : Int) : den tb (orcOf (ents G)) (pc G n) an (bodyOf Try.f74) ⟨argsD 0 [.one (.p 0 0), .one (.i d)], [.box [.l .u (Cur.b c), .i (Cur.i c), .i (Cur.h c)]]⟩ (atEnd (finR tb an [.cell 4 38])) = main (R := AT × List Ob) G n c d (fun r0 r1 => some (.agg [.i (Fm.kind r0), .i (Fm.prop r0), .o 1], [.box [.l .u (Cur.b r1), .i (Cur.i r1), .i (Cur.h r1)], .row (.n 2) 0 (Fm.kids r0)])) := by kernel_rfl
theorem ok {G : Gs} (hG : AllE Try.prog (ents G)) {g : Cur → Int → Option (Fm × Cur)} (hg : ∀ c d r, g c d = some r → Does G c d r) : EntOK Try.prog (ent g) := fun R xs H K r hc => by
  simp only [ent] at hc
  split at hc
  · rename_i a h h2 h3
    obtain ⟨r, q1, q2⟩ := bind_some hc
    obtain ⟨n, q3⟩ := hg (Cur.mk h h2 h3) a _ q1
    exact ⟨_, _, q2, fn_of_den (pc := pc G n) (an := an) (xs := [.one (.p 0 0), .one (.i a)]) (H := [.box [.l .u h, .i h2, .i h3]]) (fin := finR tb an [.cell 4 38]) mixed tb_ok (orc_ok hG) (fn := Try.f74) (c := bodyOf Try.f74) Try.func74 (by kernel_rfl) (by kernel_rfl) (by kernel_rfl) (by kernel_rfl) (by kernel_rfl) (rs := [.cell 4 38]) (by kernel_rfl) (.inr rfl) (allp hG n) ((eq G n (Cur.mk h h2 h3) a).trans q3)⟩
  · cases hc
end s_l31Draw_o
namespace s_l31Bent
structure Gs where
  s_l31Draw_o : Cur → Int → Option (Fm × Cur)
  s_l1Below : Cur → Int → Option (Int × Cur)
noncomputable def ents (G : Gs) : List Ent := [s_l31Draw_o.ent G.s_l31Draw_o, s_l1Below.ent G.s_l1Below]
noncomputable def main {R : Type} (G : Gs) (n : Nat) (c : Cur) (K : Fm → Cur → Option R) : Option R :=
  Option.bind (G.s_l31Draw_o c 3) fun r =>
  Option.bind (G.s_l1Below r.2 14) fun r2 =>
  bif decide (r2.1 = 0) then
    (K (Fm.mk (Fm.kind r.1) 8 (Fm.kids r.1)) r2.2)
  else
    bif decide (r2.1 = 1) then
      (
      Option.bind (lim ((Fm.kids r.1) ++ [(Fm.mk 1 0 [])])) fun zs =>
      K (Fm.mk (Fm.kind r.1) (Fm.prop r.1) zs) r2.2
      )
    else
      bif decide (r2.1 = 2) then
        (
        Option.bind (G.s_l1Below r2.2 10) fun r3 =>
        K (Fm.mk (wr (r3.1 - 1)) (Fm.prop r.1) (Fm.kids r.1)) r3.2
        )
      else
        K (Fm.mk (Fm.kind r.1) (Fm.prop r.1) (Fm.kids r.1)) r2.2
noncomputable def pc (_ : Gs) (_ : Nat) : Pcs := ⟨fun _ _ _ _ => none, fun _ _ _ _ => none, fun _ _ _ _ => none⟩
noncomputable def an : Ann := ⟨26, 1, [], [], [2], []⟩
theorem allp {G : Gs} (hG : AllE Try.prog (ents G)) (n : Nat) : AllP Try.prog an (pc G n) (pieces an (bodyOf Try.f54)) := by
    have h : pieces an (bodyOf Try.f54) = [] := by kernel_rfl
    rw [h]
    exact trivial
/-- What the function computes. -/
noncomputable def Does (G : Gs) (c : Cur) (r : Fm × Cur) : Prop := ∃ n, main (R := AT × List Ob) G n c (fun r0 r1 => some (.agg [.i (Fm.kind r0), .i (Fm.prop r0), .l (.n 2) (Fm.kids r0)], [.box [.l .u (Cur.b r1), .i (Cur.i r1), .i (Cur.h r1)]])) = some (.agg [.i (Fm.kind r.1), .i (Fm.prop r.1), .l (.n 2) (Fm.kids r.1)], [.box [.l .u (Cur.b r.2), .i (Cur.i r.2), .i (Cur.h r.2)]])
theorem eq (G : Gs) (n : Nat) (c : Cur) : den tb (orcOf (ents G)) (pc G n) an (bodyOf Try.f54) ⟨argsD 0 [.one (.p 0 0)], [.box [.l .u (Cur.b c), .i (Cur.i c), .i (Cur.h c)]]⟩ (atEnd (finF tb an [.cell 2 38])) = main (R := AT × List Ob) G n c (fun r0 r1 => some (.agg [.i (Fm.kind r0), .i (Fm.prop r0), .l (.n 2) (Fm.kids r0)], [.box [.l .u (Cur.b r1), .i (Cur.i r1), .i (Cur.h r1)]])) := by kernel_rfl
theorem ok {G : Gs} (hG : AllE Try.prog (ents G)) {g : Cur → Option (Fm × Cur)} (hg : ∀ c r, g c = some r → Does G c r) : EntOK Try.prog (ent g) := fun R xs H K r hc => by
  simp only [ent] at hc
  split at hc
  · rename_i h h2 h3
    obtain ⟨r, q1, q2⟩ := bind_some hc
    obtain ⟨n, q3⟩ := hg (Cur.mk h h2 h3) _ q1
    exact ⟨_, _, q2, fn_of_den (pc := pc G n) (an := an) (xs := [.one (.p 0 0)]) (H := [.box [.l .u h, .i h2, .i h3]]) (fin := finF tb an [.cell 2 38]) mixed tb_ok (orc_ok hG) (fn := Try.f54) (c := bodyOf Try.f54) Try.func54 (by kernel_rfl) (by kernel_rfl) (by kernel_rfl) (by kernel_rfl) (by kernel_rfl) (rs := [.cell 2 38]) (by kernel_rfl) (.inl rfl) (allp hG n) ((eq G n (Cur.mk h h2 h3)).trans q3)⟩
  · cases hc
end s_l31Bent
namespace s_l31Lasso
structure Gs where
  s_l1Below : Cur → Int → Option (Int × Cur)
  s_l1Once : Cur → Int → Option (Bool × Cur)
noncomputable def ents (G : Gs) : List Ent := [s_l1Below.ent G.s_l1Below, s_l1Once.ent G.s_l1Once]
noncomputable def b4 {R : Type} (G : Gs) (n : Nat) (most : Int) (n1 : Int) (i : Int) (h0 : List Int) (h02 : Int) (h03 : Int) (h1 : Int) (h2 : List Int) (h3 : Int) (h4 : List Int) (nx : Int → Int → Int → List Int → Int → Int → Int → List Int → Int → List Int → Option R) (k0 : Int → List Int → Int → Int → Int → List Int → Int → List Int → Option R) : Option R :=
  bif decide (i < n1) then
    (
    Option.bind (G.s_l1Below (Cur.mk h0 h02 h03) most) fun r2 =>
    Option.bind (lim (h4 ++ [r2.1])) fun zs2 =>
    nx most n1 (wr (i + 1)) (Cur.b r2.2) (Cur.i r2.2) (Cur.h r2.2) h1 h2 h3 zs2
    )
  else
    k0 n1 h0 h02 h03 h1 h2 h3 h4
noncomputable def l4 {R : Type} (G : Gs) (n m : Nat) (most : Int) (n1 : Int) (i : Int) (h0 : List Int) (h02 : Int) (h03 : Int) (h1 : Int) (h2 : List Int) (h3 : Int) (h4 : List Int) (k0 : Int → List Int → Int → Int → Int → List Int → Int → List Int → Option R) : Option R := iter (fun (v : Int × Int × Int × List Int × Int × Int × Int × List Int × Int × List Int) nx => b4 G n v.1 v.2.1 v.2.2.1 v.2.2.2.1 v.2.2.2.2.1 v.2.2.2.2.2.1 v.2.2.2.2.2.2.1 v.2.2.2.2.2.2.2.1 v.2.2.2.2.2.2.2.2.1 v.2.2.2.2.2.2.2.2.2 (fun y0 y1 y2 y3 y4 y5 y6 y7 y8 y9 => nx (y0, y1, y2, y3, y4, y5, y6, y7, y8, y9)) k0) m (most, n1, i, h0, h02, h03, h1, h2, h3, h4)
noncomputable def main {R : Type} (G : Gs) (n : Nat) (c : Cur) (most : Int) (K : Lasso → Cur → Option R) : Option R :=
  Option.bind (G.s_l1Below c 6) fun r =>
  l4 G n n most (wr (1 + r.1)) 0 (Cur.b r.2) (Cur.i r.2) (Cur.h r.2) 0 [] 0 []
    (fun n1 h0 h02 h03 h1 h2 h3 h4 =>
      Option.bind (G.s_l1Below (Cur.mk h0 h02 h03) n1) fun r2 =>
      Option.bind (G.s_l1Once r2.2 20) fun r3 =>
      bif r3.1 then
        (K (Lasso.mk h4 n1) r3.2)
      else
        K (Lasso.mk h4 r2.1) r3.2
    )
noncomputable def dl4 (G : Gs) (n m : Nat) (R : Type) (st : St) (K : Kt R) : Option R := match st with
  | ⟨[(0, .one (.p 0 0)), (1, .one (.i most)), (4, .one (.p 1 0)), (5, .one (.p 3 0)), (6, .one (.i n1)), (7, .one (.i i))], [.box [.l .u h0, .i h02, .i h03], .box [.o 2, .i h1], .row .i 0 h2, .box [.o 4, .i h3], .row .i 0 h4]⟩ => l4 G n m most n1 i h0 h02 h03 h1 h2 h3 h4 (fun n1 h0 h02 h03 h1 h2 h3 h4 => K (.exit 0) ⟨[(0, .one (.p 0 0)), (4, .one (.p 1 0)), (5, .one (.p 3 0)), (6, .one (.i n1))], [.box [.l .u h0, .i h02, .i h03], .box [.o 2, .i h1], .row .i 0 h2, .box [.o 4, .i h3], .row .i 0 h4]⟩)
  | _ => none
noncomputable def pc (G : Gs) (n : Nat) : Pcs := ⟨fun R id st K => bif Nat.beq id 4 then dl4 G n n R st K else none, fun _ _ _ _ => none, fun _ _ _ _ => none⟩
noncomputable def an : Ann := ⟨34, 1, [(4, [0, 1, 4, 5, 6, 7])], [], [4], [(6, ⟨[([2, 3, 4, 0, 1, 5, 6, 7, 8], [4, 6, 8], [1])], [4, 6, 8], [], [1, 2], []⟩)]⟩
theorem s4 (G : Gs) (n m : Nat) (R : Type) (most : Int) (n1 : Int) (i : Int) (h0 : List Int) (h02 : Int) (h03 : Int) (h1 : Int) (h2 : List Int) (h3 : Int) (h4 : List Int) (K : Kt R) : den tb (orcOf (ents G)) (pc G n) an (nthC [1, 1, 1, 0, 1, 0, 0] (bodyOf Try.f58)) ⟨[(0, .one (.p 0 0)), (1, .one (.i most)), (4, .one (.p 1 0)), (5, .one (.p 3 0)), (6, .one (.i n1)), (7, .one (.i i))], [.box [.l .u h0, .i h02, .i h03], .box [.o 2, .i h1], .row .i 0 h2, .box [.o 4, .i h3], .row .i 0 h4]⟩ (roundK an.refs [0, 1, 4, 5, 6, 7] ⟨[0, 4, 5, 6], [4], [(0, [0, 4, 5, 6])]⟩ (fun st => dl4 G n m R st K) K) = dl4 G n (m + 1) R ⟨[(0, .one (.p 0 0)), (1, .one (.i most)), (4, .one (.p 1 0)), (5, .one (.p 3 0)), (6, .one (.i n1)), (7, .one (.i i))], [.box [.l .u h0, .i h02, .i h03], .box [.o 2, .i h1], .row .i 0 h2, .box [.o 4, .i h3], .row .i 0 h4]⟩ K := by kernel_rfl
theorem pl4 {G : Gs} (hG : AllE Try.prog (ents G)) (n : Nat) : ∀ m, PieceOK Try.prog an (.loop (nthC [1, 1, 1, 0, 1, 0, 0] (bodyOf Try.f58))) (dl4 G n m) := by
  refine loop_piece mixed tb_ok (orc_ok hG) (pc := pc G n) (lv := [0, 1, 4, 5, 6, 7]) (o := ⟨[0, 4, 5, 6], [4], [(0, [0, 4, 5, 6])]⟩) (by
    have h : pieces an (nthC [1, 1, 1, 0, 1, 0, 0] (bodyOf Try.f58)) = [] := by kernel_rfl
    rw [h]
    exact trivial) (fun R st K => ?_) (fun m R st K r h => ?_)
  · unfold dl4; split <;> rfl
  · have e := h
    unfold dl4 at e
    split at e
    · rename_i x0 x1 x2 x3 x4 x5 x6 x7 x8 x9; exact (s4 G n m R x0 x1 x2 x3 x4 x5 x6 x7 x8 x9 K).trans h
    · cases e
theorem allp {G : Gs} (hG : AllE Try.prog (ents G)) (n : Nat) : AllP Try.prog an (pc G n) (pieces an (bodyOf Try.f58)) := by
    have h : pieces an (bodyOf Try.f58) = [(1, 4, .loop (nthC [1, 1, 1, 0, 1, 0, 0] (bodyOf Try.f58)))] := by kernel_rfl
    rw [h]
    exact ⟨pl4 hG n n, trivial⟩
/-- What the function computes. -/
noncomputable def Does (G : Gs) (c : Cur) (most : Int) (r : Lasso × Cur) : Prop := ∃ n, main (R := AT × List Ob) G n c most (fun r0 r1 => some (.agg [.l .i (Lasso.states r0), .i (Lasso.back r0)], [.box [.l .u (Cur.b r1), .i (Cur.i r1), .i (Cur.h r1)]])) = some (.agg [.l .i (Lasso.states r.1), .i (Lasso.back r.1)], [.box [.l .u (Cur.b r.2), .i (Cur.i r.2), .i (Cur.h r.2)]])
theorem eq (G : Gs) (n : Nat) (c : Cur) (most : Int) : den tb (orcOf (ents G)) (pc G n) an (bodyOf Try.f58) ⟨argsD 0 [.one (.p 0 0), .one (.i most)], [.box [.l .u (Cur.b c), .i (Cur.i c), .i (Cur.h c)]]⟩ (atEnd (finF tb an [.cell 4 27])) = main (R := AT × List Ob) G n c most (fun r0 r1 => some (.agg [.l .i (Lasso.states r0), .i (Lasso.back r0)], [.box [.l .u (Cur.b r1), .i (Cur.i r1), .i (Cur.h r1)]])) := by kernel_rfl
theorem ok {G : Gs} (hG : AllE Try.prog (ents G)) {g : Cur → Int → Option (Lasso × Cur)} (hg : ∀ c most r, g c most = some r → Does G c most r) : EntOK Try.prog (ent g) := fun R xs H K r hc => by
  simp only [ent] at hc
  split at hc
  · rename_i a h h2 h3
    obtain ⟨r, q1, q2⟩ := bind_some hc
    obtain ⟨n, q3⟩ := hg (Cur.mk h h2 h3) a _ q1
    exact ⟨_, _, q2, fn_of_den (pc := pc G n) (an := an) (xs := [.one (.p 0 0), .one (.i a)]) (H := [.box [.l .u h, .i h2, .i h3]]) (fin := finF tb an [.cell 4 27]) mixed tb_ok (orc_ok hG) (fn := Try.f58) (c := bodyOf Try.f58) Try.func58 (by kernel_rfl) (by kernel_rfl) (by kernel_rfl) (by kernel_rfl) (by kernel_rfl) (rs := [.cell 4 27]) (by kernel_rfl) (.inl rfl) (allp hG n) ((eq G n (Cur.mk h h2 h3) a).trans q3)⟩
  · cases hc
end s_l31Lasso
namespace s_DrawHoldsOn
structure Gs where
  s_l1New : List Int → Option (Cur)
  s_l31Bent : Cur → Option (Fm × Cur)
  s_l1Below : Cur → Int → Option (Int × Cur)
  s_l31Marks_o : Cur → Int → Option (List Int × Cur)
  s_l1Once : Cur → Int → Option (Bool × Cur)
  s_l31Lasso : Cur → Int → Option (Lasso × Cur)
noncomputable def ents (G : Gs) : List Ent := [s_l1New.ent G.s_l1New, s_l31Bent.ent G.s_l31Bent, s_l1Below.ent G.s_l1Below, s_l31Marks_o.ent G.s_l31Marks_o, s_l1Once.ent G.s_l1Once, s_l31Lasso.ent G.s_l31Lasso]
noncomputable def c7 {R : Type} (G : Gs) (n : Nat) (n1 : Int) (h0 : Int) (h02 : Int) (h1 : List Fm) (h2 : Int) (h3 : List Int) (h4 : List Int) (h42 : Int) (h43 : Int) (h5 : Int) (h52 : Int) (h53 : List Fm) (h6 : List Int) (k0 : Int → Int → List Fm → List Int → Int → List Int → Option R) : Option R :=
  Option.bind (G.s_l1Below (Cur.mk h4 h42 h43) 12) fun r3 =>
  Option.bind (bif decide (0 ≤ r3.1) && decide (0 < 11) then some (r3.1 / 11) else none) fun q4 =>
  Option.bind (G.s_l31Lasso r3.2 (wr (n1 + q4))) fun r4 =>
  k0 h5 h52 h53 (Lasso.states r4.1) (Lasso.back r4.1) h6
noncomputable def main {R : Type} (G : Gs) (n : Nat) (code : List Int) (K : Fm → Lasso → List Int → Option R) : Option R :=
  Option.bind (G.s_l1New code) fun r =>
  Option.bind (G.s_l31Bent r) fun r2 =>
  Option.bind (G.s_l1Below r2.2 5) fun r3 =>
  Option.bind (G.s_l31Marks_o r3.2 (wr (1 + r3.1))) fun r4 =>
  Option.bind (G.s_l1Once r4.2 20) fun r5 =>
  bif r5.1 then
    (
    Option.bind (ix r4.1 0) fun e =>
    c7 G n (wr (1 + r3.1)) 0 0 [] 0 [] (Cur.b r5.2) (Cur.i r5.2) (Cur.h r5.2) (Fm.kind r2.1) (Fm.prop r2.1) (Fm.kids r2.1) (List.set r4.1 (Int.toNat 0) 256)
      (fun h0 h02 h03 h1 h12 h2 => K (Fm.mk h0 h02 h03) (Lasso.mk h1 h12) h2)
    )
  else
    c7 G n (wr (1 + r3.1)) 0 0 [] 0 [] (Cur.b r5.2) (Cur.i r5.2) (Cur.h r5.2) (Fm.kind r2.1) (Fm.prop r2.1) (Fm.kids r2.1) r4.1
      (fun h04 h022 h032 h13 h122 h22 => K (Fm.mk h04 h022 h032) (Lasso.mk h13 h122) h22)
noncomputable def dc7 (G : Gs) (n : Nat) (R : Type) (st : St) (K : Kt R) : Option R := match st with
  | ⟨[(2, .one (.p 0 0)), (3, .one (.p 2 0)), (5, .one (.p 4 0)), (6, .one (.p 5 0)), (7, .one (.i n1)), (8, .one (.o 6))], [.box [.i h0, .i h02, .o 1], .row (.n 2) 0 h1, .box [.o 3, .i h2], .row .i 0 h3, .box [.l .u h4, .i h42, .i h43], .box [.i h5, .i h52, .l (.n 2) h53], .row .i 0 h6]⟩ => c7 G n n1 h0 h02 h1 h2 h3 h4 h42 h43 h5 h52 h53 h6 (fun h0 h02 h03 h1 h12 h2 => K .ret ⟨[(2, .one (.p 0 0)), (3, .one (.p 1 0)), (4, .one (.o 2))], [.box [.i h0, .i h02, .l (.n 2) h03], .box [.l .i h1, .i h12], .row .i 0 h2]⟩)
  | _ => none
noncomputable def pc (G : Gs) (n : Nat) : Pcs := ⟨fun _ _ _ _ => none, fun R id st K => bif Nat.beq id 7 then dc7 G n R st K else none, fun _ _ _ _ => none⟩
noncomputable def an : Ann := ⟨32, 0, [], [(7, [2, 3, 5, 6, 7, 8])], [2, 3, 4], [(7, ⟨[([3, 4, 1, 2, 5, 6, 7, 0, 9, 10, 8, 11], [4, 7, 9, 10], [])], [4, 7, 9, 10], [], [1, 3, 5, 6], []⟩)]⟩
theorem s7 (G : Gs) (n : Nat) (R : Type) (n1 : Int) (h0 : Int) (h02 : Int) (h1 : List Fm) (h2 : Int) (h3 : List Int) (h4 : List Int) (h42 : Int) (h43 : Int) (h5 : Int) (h52 : Int) (h53 : List Fm) (h6 : List Int) (K : Kt R) : den tb (orcOf (ents G)) (pc G n) an (nthC [1, 1, 1, 1, 1, 1] (bodyOf Try.f26)) ⟨[(2, .one (.p 0 0)), (3, .one (.p 2 0)), (5, .one (.p 4 0)), (6, .one (.p 5 0)), (7, .one (.i n1)), (8, .one (.o 6))], [.box [.i h0, .i h02, .o 1], .row (.n 2) 0 h1, .box [.o 3, .i h2], .row .i 0 h3, .box [.l .u h4, .i h42, .i h43], .box [.i h5, .i h52, .l (.n 2) h53], .row .i 0 h6]⟩ (outK an.refs ⟨[], [2, 3, 4], []⟩ K) = dc7 G n R ⟨[(2, .one (.p 0 0)), (3, .one (.p 2 0)), (5, .one (.p 4 0)), (6, .one (.p 5 0)), (7, .one (.i n1)), (8, .one (.o 6))], [.box [.i h0, .i h02, .o 1], .row (.n 2) 0 h1, .box [.o 3, .i h2], .row .i 0 h3, .box [.l .u h4, .i h42, .i h43], .box [.i h5, .i h52, .l (.n 2) h53], .row .i 0 h6]⟩ K := by kernel_rfl
theorem pc7 {G : Gs} (hG : AllE Try.prog (ents G)) {n : Nat} : PieceOK Try.prog an (nthC [1, 1, 1, 1, 1, 1] (bodyOf Try.f26)) (dc7 G n) := by
  refine cut_piece mixed tb_ok (orc_ok hG) (pc := pc G n) (o := ⟨[], [2, 3, 4], []⟩) (by
    have h : pieces an (nthC [1, 1, 1, 1, 1, 1] (bodyOf Try.f26)) = [] := by kernel_rfl
    rw [h]
    exact trivial) (fun R st K r h => ?_)
  have e := h
  unfold dc7 at e
  split at e
  · rename_i x0 x1 x2 x3 x4 x5 x6 x7 x8 x9 x10 x11 x12; exact (s7 G n R x0 x1 x2 x3 x4 x5 x6 x7 x8 x9 x10 x11 x12 K).trans h
  · cases e
theorem allp {G : Gs} (hG : AllE Try.prog (ents G)) (n : Nat) : AllP Try.prog an (pc G n) (pieces an (bodyOf Try.f26)) := by
    have h : pieces an (bodyOf Try.f26) = [(0, 7, nthC [1, 1, 1, 1, 1, 1] (bodyOf Try.f26))] := by kernel_rfl
    rw [h]
    exact ⟨pc7 hG, trivial⟩
/-- What the function computes. -/
noncomputable def Does (G : Gs) (code : List Int) (r : Fm × Lasso × List Int) : Prop := ∃ n, main (R := AT × List Ob) G n code (fun r0 r1 r2 => some (.tup [.agg [.i (Fm.kind r0), .i (Fm.prop r0), .l (.n 2) (Fm.kids r0)], .agg [.l .i (Lasso.states r1), .i (Lasso.back r1)], .one (.l .i r2)], [])) = some (.tup [.agg [.i (Fm.kind r.1), .i (Fm.prop r.1), .l (.n 2) (Fm.kids r.1)], .agg [.l .i (Lasso.states r.2.1), .i (Lasso.back r.2.1)], .one (.l .i r.2.2)], [])
theorem eq (G : Gs) (n : Nat) (code : List Int) : den tb (orcOf (ents G)) (pc G n) an (bodyOf Try.f26) ⟨argsD 0 [.one (.l .u code)], []⟩ (atEnd (finF tb an [.cell 2 38, .cell 3 27, .tmp 4])) = main (R := AT × List Ob) G n code (fun r0 r1 r2 => some (.tup [.agg [.i (Fm.kind r0), .i (Fm.prop r0), .l (.n 2) (Fm.kids r0)], .agg [.l .i (Lasso.states r1), .i (Lasso.back r1)], .one (.l .i r2)], [])) := by kernel_rfl
theorem ok {G : Gs} (hG : AllE Try.prog (ents G)) {g : List Int → Option (Fm × Lasso × List Int)} (hg : ∀ code r, g code = some r → Does G code r) : EntOK Try.prog (ent g) := fun R xs H K r hc => by
  simp only [ent] at hc
  split at hc
  · rename_i a
    obtain ⟨r, q1, q2⟩ := bind_some hc
    obtain ⟨n, q3⟩ := hg a _ q1
    exact ⟨_, _, q2, fn_of_den (pc := pc G n) (an := an) (xs := [.one (.l .u a)]) (H := []) (fin := finF tb an [.cell 2 38, .cell 3 27, .tmp 4]) mixed tb_ok (orc_ok hG) (fn := Try.f26) (c := bodyOf Try.f26) Try.func26 (by kernel_rfl) (by kernel_rfl) (by kernel_rfl) (by kernel_rfl) (by kernel_rfl) (rs := [.cell 2 38, .cell 3 27, .tmp 4]) (by kernel_rfl) (.inl rfl) (allp hG n) ((eq G n a).trans q3)⟩
  · cases hc
end s_DrawHoldsOn
end Go.Proofs.Ytagnfckihdlhpaa.Den

/-
  Plain words about what den's models are made of.
-/
namespace Go.Proofs.Ytagnfckihdlhpaa.Den
open Go.RowKit

/-- Some answer that is right, if there is one. -/
noncomputable def pick {A B : Type} (Q : A → B → Prop) (a : A) : Option B := open Classical in if h : ∃ b, Q a b then some (Classical.choose h) else none
theorem pick_some {A B : Type} {Q : A → B → Prop} {a : A} {b : B} (h : pick Q a = some b) : Q a b := by
  unfold pick at h
  split at h
  · rename_i hx; cases h; exact Classical.choose_spec hx
  · cases h
theorem pick_ex {A B : Type} {Q : A → B → Prop} {a : A} {b : B} (h : Q a b) : ∃ b, pick Q a = some b ∧ Q a b := by
  have hx : ∃ b, Q a b := ⟨b, h⟩
  refine ⟨Classical.choose hx, ?_, Classical.choose_spec hx⟩
  unfold pick
  rw [dif_pos hx]

theorem by_pick {A B : Type} {P : A → Prop} {D : A → B → Prop} {E : (A → Option B) → Prop} {Post : A → B → Prop} (hE : ∀ g, (∀ a b, g a = some b → D a b) → E g) (h : ∀ a, P a → ∃ b, D a b ∧ Post a b) : ∃ g, E g ∧ ∀ a, P a → ∃ b, g a = some b ∧ Post a b :=
  ⟨pick fun a b => D a b ∧ Post a b, hE _ fun _ _ h => (pick_some h).1, fun a ha => let ⟨_, hb⟩ := h a ha; let ⟨b, h1, h2⟩ := pick_ex (Q := fun a b => D a b ∧ Post a b) hb; ⟨b, h1, h2.2⟩⟩
theorem by_pick2 {A A' B : Type} {P : A → A' → Prop} {D : A → A' → B → Prop} {E : (A → A' → Option B) → Prop} {Post : A → A' → B → Prop} (hE : ∀ g, (∀ a a' b, g a a' = some b → D a a' b) → E g) (h : ∀ a a', P a a' → ∃ b, D a a' b ∧ Post a a' b) : ∃ g, E g ∧ ∀ a a', P a a' → ∃ b, g a a' = some b ∧ Post a a' b :=
  ⟨fun a a' => pick (fun (x : A × A') b => D x.1 x.2 b ∧ Post x.1 x.2 b) (a, a'), hE _ fun _ _ _ h => (pick_some h).1, fun a a' ha => let ⟨_, hb⟩ := h a a' ha; let ⟨b, h1, h2⟩ := pick_ex (Q := fun (x : A × A') b => D x.1 x.2 b ∧ Post x.1 x.2 b) (a := (a, a')) hb; ⟨b, h1, h2.2⟩⟩

theorem wr_in {x : Int} (h : -9223372036854775808 ≤ x ∧ x ≤ 9223372036854775807) : wr x = x := Abs.wrap_in h.1 h.2
theorem ix_in {α : Type} {xs : List α} {i : Int} (h0 : 0 ≤ i) (h1 : i < xs.length) : ∃ x, ix xs i = some x ∧ xs[i.toNat]? = some x := by
  have hlt : i.toNat < xs.length := by omega
  exact ⟨xs[i.toNat], by simp [ix, h0, hlt], List.getElem?_eq_getElem hlt⟩
theorem ix_nat {α : Type} {xs : List α} {k : Nat} : ix xs (k : Int) = xs[k]? := by simp [ix]
theorem lim_eq {α : Type} {xs : List α} (h : xs.length ≤ 4294967296) : lim xs = some xs := by unfold lim; rw [Nat.ble_eq_true_of_le h]; rfl
theorem sub_eq {α : Type} {xs : List α} {lo hi : Int} (h0 : 0 ≤ lo) (h1 : lo ≤ hi) (h2 : hi ≤ xs.length) : sub xs lo hi = some ((xs.take hi.toNat).drop lo.toNat) := by simp [sub, h0, h1, h2]
theorem and255 (x : Int) : 0 ≤ Abs.bitsI .and .i64 x 255 ∧ Abs.bitsI .and .i64 x 255 ≤ 255 := by
  have h1 : (BitVec.ofInt IntKind.i64.bits x &&& BitVec.ofInt IntKind.i64.bits 255).toNat ≤ 255 := by
    rw [BitVec.toNat_and]
    exact Nat.le_trans Nat.and_le_right (by decide)
  simp only [Abs.bitsI]
  rw [Abs.wrap_in (by omega) (by omega)]
  omega
@[simp] theorem Fm.eta (f : Fm) : Fm.mk f.kind f.prop f.kids = f := by cases f; rfl
@[simp] theorem Cur.eta (c : Cur) : Cur.mk c.b c.i c.h = c := rfl
end Go.Proofs.Ytagnfckihdlhpaa.Den

/-
  The draws: they end, and what is known of what they draw.
-/
namespace Go.Proofs.Ytagnfckihdlhpaa.Den
open Go.RowKit

/-- A cursor within its bytes. -/
def Inv (c : Cur) : Prop := 0 ≤ c.i ∧ c.i ≤ c.b.length ∧ c.b.length ≤ 1099511627776

theorem byte_main (c : Cur) (hc : Inv c) : ∃ x c', (∀ (R : Type) (K : Int → Cur → Option R), s_l1Byte.main ⟨()⟩ 1 c K = K x c') ∧ 0 ≤ x ∧ x ≤ 255 ∧ Inv c' := by
  obtain ⟨h0, h1, h2⟩ := hc
  by_cases hlt : c.i < c.b.length
  · obtain ⟨e, he, _⟩ := ix_in h0 hlt
    refine ⟨_, _, fun R K => by simp only [s_l1Byte.main, hlt, he, decide_true, cond_true, Option.bind_some]; rfl, (and255 _).1, (and255 _).2, ?_⟩
    refine ⟨?_, ?_, h2⟩ <;> simp only <;> rw [wr_in (by omega)] <;> omega
  · refine ⟨_, _, fun R K => by simp only [s_l1Byte.main, hlt, decide_false, cond_false]; rfl, (and255 _).1, (and255 _).2, ?_⟩
    exact ⟨h0, h1, h2⟩
def ByteP (g : Cur → Option (Int × Cur)) : Prop := ∀ c, Inv c → ∃ r, g c = some r ∧ (0 ≤ r.1 ∧ r.1 ≤ 255 ∧ Inv r.2)
theorem byte_ex : ∃ g, EntOK Try.prog (s_l1Byte.ent g) ∧ ByteP g := by_pick (fun g hg => s_l1Byte.ok (G := ⟨()⟩) trivial hg) fun c hc =>
  let ⟨x, c', h1, h2⟩ := byte_main c hc
  ⟨(x, c'), ⟨1, h1 _ _⟩, h2⟩

def BelowP (g : Cur → Int → Option (Int × Cur)) : Prop := ∀ c n, (Inv c ∧ n ≤ 256) → ∃ r, g c n = some r ∧ (0 ≤ r.1 ∧ (0 < n → r.1 < n) ∧ r.1 ≤ 255 ∧ Inv r.2)
theorem below_ex {gB : Cur → Option (Int × Cur)} (eB : EntOK Try.prog (s_l1Byte.ent gB)) (hB : ByteP gB) : ∃ g, EntOK Try.prog (s_l1Below.ent g) ∧ BelowP g :=
  by_pick2 (fun g hg => s_l1Below.ok (G := ⟨gB⟩) ⟨eB, trivial⟩ hg) fun c n ⟨hc, hn⟩ => by
    by_cases h0 : n ≤ 0
    · exact ⟨(0, c), ⟨1, by simp [s_l1Below.main, h0]⟩, by simp, fun h => by omega, by simp, hc⟩
    · obtain ⟨r, e, h1, h2, h3⟩ := hB c hc
      have hp : 0 < n := by omega
      have hm : r.1 % n ≤ r.1 := by
        rcases Int.lt_or_le r.1 n with h | h
        · rw [Int.emod_eq_of_lt h1 h]; exact Int.le_refl _
        · exact Int.le_trans (Int.le_of_lt (Int.emod_lt_of_pos _ hp)) h
      exact ⟨(r.1 % n, r.2), ⟨1, by simp [s_l1Below.main, h0, hn, e, h1, hp]⟩, Int.emod_nonneg _ (by omega), fun _ => Int.emod_lt_of_pos _ hp, Int.le_trans hm h2, h3⟩

def OnceP (g : Cur → Int → Option (Bool × Cur)) : Prop := ∀ c n, (Inv c ∧ n ≤ 256) → ∃ r, g c n = some r ∧ Inv r.2
theorem once_ex {gL : Cur → Int → Option (Int × Cur)} (eL : EntOK Try.prog (s_l1Below.ent gL)) (hL : BelowP gL) : ∃ g, EntOK Try.prog (s_l1Once.ent g) ∧ OnceP g :=
  by_pick2 (fun g hg => s_l1Once.ok (G := ⟨gL⟩) ⟨eL, trivial⟩ hg) fun c n hc => by
    obtain ⟨r, e, _, _, _, h3⟩ := hL c n hc
    exact ⟨(decide (r.1 = 0), r.2), ⟨1, by simp [s_l1Once.main, e]⟩, h3⟩

def NewP (g : List Int → Option Cur) : Prop := ∀ code, code.length ≤ 1048576 → ∃ c, g code = some c ∧ Inv c
theorem new_loop {R : Type} (G : s_l1New.Gs) (n : Nat) (code : List Int) (hl : code.length ≤ 1048576) (k : List Int → Int → Option R) : ∀ m (h i : Int), 0 ≤ i → i ≤ code.length → (code.length - i).toNat < m → ∃ h', s_l1New.l3 G n m code h i k = k code h' := by
  intro m
  induction m with
  | zero => intro h i _ _ hm; omega
  | succ m ih =>
    intro h i h0 h1 hm
    show ∃ h', s_l1New.b3 G n code h i (fun y0 y1 y2 => s_l1New.l3 G n m y0 y1 y2 k) k = k code h'
    unfold s_l1New.b3
    by_cases hi : i < code.length
    · by_cases h4 : i < 4000
      · obtain ⟨e, he, _⟩ := ix_in h0 hi
        simp only [hi, h4, decide_true, cond_true, he, Option.bind_some]
        rw [wr_in (x := i + 1) (by omega)]
        exact ih _ (i + 1) (by omega) (by omega) (by omega)
      · exact ⟨h, by simp [hi, h4]⟩
    · exact ⟨h, by simp [hi]⟩
theorem new_ex : ∃ g, EntOK Try.prog (s_l1New.ent g) ∧ NewP g := by_pick (fun g hg => s_l1New.ok (G := ⟨()⟩) trivial hg) fun code hl => by
  obtain ⟨h', hh⟩ := new_loop ⟨()⟩ (code.length + 1) code hl (fun code2 h => some (AT.one (.p 0 0), [Ob.box (explode (.n 12) (Cur.mk code2 0 h))])) (code.length + 1) (wr (124929 + (List.length code : Int))) 0 (by omega) (by omega) (by omega)
  exact ⟨Cur.mk code 0 h', ⟨code.length + 1, hh⟩, by simp, by simp, by simp; omega⟩

def MarksP (g : Cur → Int → Option (List Int × Cur)) : Prop := ∀ c n, (Inv c ∧ 0 ≤ n ∧ n ≤ 256) → ∃ r, g c n = some r ∧ (r.1.length = n ∧ (∀ x ∈ r.1, 0 ≤ x ∧ x ≤ 255) ∧ Inv r.2)
theorem marks_loop {R : Type} {gL : Cur → Int → Option (Int × Cur)} (hL : BelowP gL) (n : Nat) (N : Int) (hN : N ≤ 256) (k : List Int → Int → Int → List Int → Option R) : ∀ m (i : Int) (c : Cur) (xs : List Int), 0 ≤ i → i ≤ N → Inv c → xs.length = i → (∀ x ∈ xs, 0 ≤ x ∧ x ≤ 255) → (N - i).toNat < m →
    ∃ c' ys, s_l31Marks_o.l3 ⟨gL⟩ n m N i c.b c.i c.h xs k = k c'.b c'.i c'.h ys ∧ Inv c' ∧ ys.length = N ∧ ∀ x ∈ ys, 0 ≤ x ∧ x ≤ 255 := by
  intro m
  induction m with
  | zero => intro i c xs _ _ _ _ _ hm; omega
  | succ m ih =>
    intro i c xs h0 h1 hc hx hr hm
    show ∃ c' ys, s_l31Marks_o.b3 ⟨gL⟩ n N i c.b c.i c.h xs (fun y0 y1 y2 y3 y4 y5 => s_l31Marks_o.l3 ⟨gL⟩ n m y0 y1 y2 y3 y4 y5 k) k = _ ∧ _
    unfold s_l31Marks_o.b3
    by_cases hi : i < N
    · obtain ⟨r, e, q0, _, q1, h3⟩ := hL c 8 ⟨hc, by omega⟩
      simp only [hi, decide_true, cond_true, Cur.eta, e, Option.bind_some]
      rw [lim_eq (by simp; omega), wr_in (x := i + 1) (by omega)]
      exact ih (i + 1) r.2 (xs ++ [r.1]) (by omega) (by omega) h3 (by simp; omega) (fun x hx => by rcases List.mem_append.1 hx with h | h; exact hr x h; simp at h; subst h; exact ⟨q0, q1⟩) (by omega)
    · exact ⟨c, xs, by simp [hi], hc, by omega, hr⟩
theorem marks_ex {gL : Cur → Int → Option (Int × Cur)} (eL : EntOK Try.prog (s_l1Below.ent gL)) (hL : BelowP gL) : ∃ g, EntOK Try.prog (s_l31Marks_o.ent g) ∧ MarksP g :=
  by_pick2 (fun g hg => s_l31Marks_o.ok (G := ⟨gL⟩) ⟨eL, trivial⟩ hg) fun c n ⟨hc, h0, h1⟩ => by
    obtain ⟨c', ys, e, h2, h3, h4⟩ := marks_loop hL 1000 n h1 (fun h0 h02 h03 h1 => some (AT.one (.o 1), [Ob.box (explode (.n 12) (Cur.mk h0 h02 h03)), Ob.row .i 0 h1])) 1000 0 c [] (by omega) h0 hc rfl (fun x hx => by simp at hx) (by omega)
    exact ⟨(ys, c'), ⟨1000, e⟩, h3, h4, h2⟩

/-- How many nodes a drawn formula can have below it. -/
def drawN : Nat → Nat
  | 0 => 0
  | d + 1 => 2 + 2 * drawN d
def DrawP (d : Int) (g : Cur → Int → Option (Fm × Cur)) : Prop := ∀ c, Inv c → ∃ r, g c d = some r ∧ (r.1.total ≤ drawN d.toNat ∧ Inv r.2)
theorem total0 (k q : Int) : Fm.total ⟨k, q, []⟩ = 0 := by rw [Fm.total_eq]; rfl
theorem total1 (k q : Int) (f : Fm) : Fm.total ⟨k, q, [f]⟩ = 1 + f.total := by rw [Fm.total_eq]; simp [totals]
theorem total2 (k q : Int) (f g : Fm) : Fm.total ⟨k, q, [f, g]⟩ = 2 + f.total + g.total := by rw [Fm.total_eq]; simp [totals]; omega
section
variable {gL : Cur → Int → Option (Int × Cur)} {gO : Cur → Int → Option (Bool × Cur)} {gD : Cur → Int → Option (Fm × Cur)}
theorem leaf {R : Type} (hL : BelowP gL) (hO : OnceP gO) (n : Nat) (c : Cur) (hc : Inv c) (a b : Int) (l : List Fm) : ∃ c' x y, (∀ (R : Type) (k : List Int → Int → Int → Int → Int → List Fm → Option R), s_l31Draw.c3 ⟨gL, gO, gD⟩ n c.b c.i c.h a b l k = k c'.b c'.i c'.h x y []) ∧ Inv c' := by
  unfold s_l31Draw.c3
  obtain ⟨r, e, h1⟩ := hO c 6 ⟨hc, by omega⟩
  simp only [Cur.eta, e, Option.bind_some]
  cases r.1 with
  | true => exact ⟨r.2, 1, 0, fun _ _ => rfl, h1⟩
  | false =>
    obtain ⟨r2, e2, _, _, _, h2⟩ := hL r.2 3 ⟨h1, by omega⟩
    exact ⟨r2.2, 2, r2.1, fun _ _ => by simp [e2], h2⟩
theorem draw_main (hL : BelowP gL) (hO : OnceP gO) (n : Nat) (c : Cur) (hc : Inv c) (d : Int) (hd : -1000 ≤ d ∧ d ≤ 1000) (hD : 0 < d → DrawP (d - 1) gD) : ∃ f c', (∀ (R : Type) (K : Fm → Cur → Option R), s_l31Draw.main ⟨gL, gO, gD⟩ n c d K = K f c') ∧ f.total ≤ drawN d.toNat ∧ Inv c' := by
  unfold s_l31Draw.main
  obtain ⟨r, e, b0, b1, _, h1⟩ := hL c 7 ⟨hc, by omega⟩
  have b1 := b1 (by omega)
  obtain ⟨cl, x, y, kl, il⟩ := leaf (R := Unit) (gD := gD) hL hO n r.2 h1 0 0 []
  have ek : wr (1 + r.1) = 1 + r.1 := wr_in (by omega)
  simp only [e, Option.bind_some, ek]
  by_cases h0 : d ≤ 0
  · exact ⟨⟨x, y, []⟩, cl, fun R K => by simp [h0, kl], by rw [total0]; omega, il⟩
  by_cases h2 : 1 + r.1 ≤ 2
  · exact ⟨⟨x, y, []⟩, cl, fun R K => by simp [h0, h2, kl], by rw [total0]; omega, il⟩
  have ed : wr (d - 1) = d - 1 := wr_in (by omega)
  have en : drawN d.toNat = 2 + 2 * drawN (d - 1).toNat := by
    rw [show d.toNat = (d - 1).toNat + 1 by omega]; rfl
  obtain ⟨r2, e2, t2, i2⟩ := hD (by omega) r.2 h1
  have two : ∀ (a b : Int) (l : List Fm) (h3 h32 : Int), ∃ f c', (∀ (R : Type) (k : List Int → Int → Int → Int → Int → List Fm → Int → Int → List Fm → Option R), s_l31Draw.c8 ⟨gL, gO, gD⟩ n d r2.2.b r2.2.i r2.2.h a b l h3 h32 [r2.1] k = k c'.b c'.i c'.h a b l h3 h32 [r2.1, f]) ∧ f.total ≤ drawN (d - 1).toNat ∧ Inv c' := fun a b l h3 h32 => by
    obtain ⟨r3, e3, t3, i3⟩ := hD (by omega) r2.2 i2
    exact ⟨r3.1, r3.2, fun R k => by simp [s_l31Draw.c8, ed, e3, lim_eq], t3, i3⟩
  obtain ⟨f3, c3, k3, t3, i3⟩ := two 0 0 [] (1 + r.1) 0
  simp only [h0, h2, decide_false, cond_false, ed, e2, Option.bind_some, Fm.eta]
  by_cases h4 : 1 + r.1 = 4
  · exact ⟨⟨1 + r.1, 0, [r2.1, f3]⟩, c3, fun R K => by simp only [h4, decide_true, cond_true]; rw [h4] at k3; rw [k3], by rw [total2]; omega, i3⟩
  by_cases h5 : 1 + r.1 = 5
  · exact ⟨⟨1 + r.1, 0, [r2.1, f3]⟩, c3, fun R K => by simp only [h4, h5, decide_true, decide_false, cond_true, cond_false]; rw [h5] at k3; simp only [show decide ((5 : Int) = 4) = false from rfl, cond_false]; rw [k3], by rw [total2]; omega, i3⟩
  by_cases h7 : 1 + r.1 = 7
  · exact ⟨⟨1 + r.1, 0, [r2.1, f3]⟩, c3, fun R K => by rw [h7] at k3; simp only [h7, show decide ((7 : Int) = 4) = false from rfl, show decide ((7 : Int) = 5) = false from rfl, decide_true, cond_true, cond_false]; rw [k3], by rw [total2]; omega, i3⟩
  · exact ⟨⟨1 + r.1, 0, [r2.1]⟩, r2.2, fun R K => by simp only [h4, h5, h7, decide_false, cond_false], by rw [total1]; omega, i2⟩
theorem leafO {R : Type} (hL : BelowP gL) (hO : OnceP gO) (n : Nat) (c : Cur) (hc : Inv c) (a b : Int) (l : List Fm) : ∃ c' x y, (∀ (R : Type) (k : List Int → Int → Int → Int → Int → List Fm → Option R), s_l31Draw_o.c3 ⟨gL, gO, gD⟩ n c.b c.i c.h a b l k = k c'.b c'.i c'.h x y []) ∧ Inv c' := by
  unfold s_l31Draw_o.c3
  obtain ⟨r, e, h1⟩ := hO c 6 ⟨hc, by omega⟩
  simp only [Cur.eta, e, Option.bind_some]
  cases r.1 with
  | true => exact ⟨r.2, 1, 0, fun _ _ => rfl, h1⟩
  | false =>
    obtain ⟨r2, e2, _, _, _, h2⟩ := hL r.2 3 ⟨h1, by omega⟩
    exact ⟨r2.2, 2, r2.1, fun _ _ => by simp [e2], h2⟩
theorem drawO_main (hL : BelowP gL) (hO : OnceP gO) (n : Nat) (c : Cur) (hc : Inv c) (d : Int) (hd : -1000 ≤ d ∧ d ≤ 1000) (hD : 0 < d → DrawP (d - 1) gD) : ∃ f c', (∀ (R : Type) (K : Fm → Cur → Option R), s_l31Draw_o.main ⟨gL, gO, gD⟩ n c d K = K f c') ∧ f.total ≤ drawN d.toNat ∧ Inv c' := by
  unfold s_l31Draw_o.main
  obtain ⟨r, e, b0, b1, _, h1⟩ := hL c 7 ⟨hc, by omega⟩
  have b1 := b1 (by omega)
  obtain ⟨cl, x, y, kl, il⟩ := leafO (R := Unit) (gD := gD) hL hO n r.2 h1 0 0 []
  have ek : wr (1 + r.1) = 1 + r.1 := wr_in (by omega)
  simp only [e, Option.bind_some, ek]
  by_cases h0 : d ≤ 0
  · exact ⟨⟨x, y, []⟩, cl, fun R K => by simp [h0, kl], by rw [total0]; omega, il⟩
  by_cases h2 : 1 + r.1 ≤ 2
  · exact ⟨⟨x, y, []⟩, cl, fun R K => by simp [h0, h2, kl], by rw [total0]; omega, il⟩
  have ed : wr (d - 1) = d - 1 := wr_in (by omega)
  have en : drawN d.toNat = 2 + 2 * drawN (d - 1).toNat := by
    rw [show d.toNat = (d - 1).toNat + 1 by omega]; rfl
  obtain ⟨r2, e2, t2, i2⟩ := hD (by omega) r.2 h1
  have two : ∀ (a b : Int) (l : List Fm) (h3 h32 : Int), ∃ f c', (∀ (R : Type) (k : List Int → Int → Int → Int → Int → List Fm → Int → Int → List Fm → Option R), s_l31Draw_o.c8 ⟨gL, gO, gD⟩ n d r2.2.b r2.2.i r2.2.h a b l h3 h32 [r2.1] k = k c'.b c'.i c'.h a b l h3 h32 [r2.1, f]) ∧ f.total ≤ drawN (d - 1).toNat ∧ Inv c' := fun a b l h3 h32 => by
    obtain ⟨r3, e3, t3, i3⟩ := hD (by omega) r2.2 i2
    exact ⟨r3.1, r3.2, fun R k => by simp [s_l31Draw_o.c8, ed, e3, lim_eq], t3, i3⟩
  obtain ⟨f3, c3, k3, t3, i3⟩ := two 0 0 [] (1 + r.1) 0
  simp only [h0, h2, decide_false, cond_false, ed, e2, Option.bind_some, Fm.eta]
  by_cases h4 : 1 + r.1 = 4
  · exact ⟨⟨1 + r.1, 0, [r2.1, f3]⟩, c3, fun R K => by simp only [h4, decide_true, cond_true]; rw [h4] at k3; rw [k3], by rw [total2]; omega, i3⟩
  by_cases h5 : 1 + r.1 = 5
  · exact ⟨⟨1 + r.1, 0, [r2.1, f3]⟩, c3, fun R K => by simp only [h4, h5, decide_true, decide_false, cond_true, cond_false]; rw [h5] at k3; simp only [show decide ((5 : Int) = 4) = false from rfl, cond_false]; rw [k3], by rw [total2]; omega, i3⟩
  by_cases h7 : 1 + r.1 = 7
  · exact ⟨⟨1 + r.1, 0, [r2.1, f3]⟩, c3, fun R K => by rw [h7] at k3; simp only [h7, show decide ((7 : Int) = 4) = false from rfl, show decide ((7 : Int) = 5) = false from rfl, decide_true, cond_true, cond_false]; rw [k3], by rw [total2]; omega, i3⟩
  · exact ⟨⟨1 + r.1, 0, [r2.1]⟩, r2.2, fun R K => by simp only [h4, h5, h7, decide_false, cond_false], by rw [total1]; omega, i2⟩
theorem draw_none : EntOK Try.prog (s_l31Draw.ent fun _ _ => none) := fun R xs H K r h => by
  simp only [s_l31Draw.ent] at h
  split at h <;> cases h
theorem draws_ex (hL : BelowP gL) (hO : OnceP gO) (eL : EntOK Try.prog (s_l1Below.ent gL)) (eO : EntOK Try.prog (s_l1Once.ent gO)) : ∀ k : Nat, k ≤ 100 → ∃ g, EntOK Try.prog (s_l31Draw.ent g) ∧ ∀ c (d : Int), (Inv c ∧ 0 ≤ d ∧ d ≤ (k : Int)) → ∃ r, g c d = some r ∧ (r.1.total ≤ drawN d.toNat ∧ Inv r.2)
  | 0, _ => by_pick2 (fun g hg => s_l31Draw.ok (G := ⟨gL, gO, fun _ _ => none⟩) ⟨eL, eO, draw_none, trivial⟩ hg) fun c d ⟨hc, h0, h1⟩ => by
      obtain ⟨f, c', e, h2, h3⟩ := draw_main (gD := fun _ _ => none) hL hO 1 c hc d (by omega) (fun h => by omega)
      exact ⟨(f, c'), ⟨1, e _ _⟩, h2, h3⟩
  | k + 1, hk => by
    obtain ⟨gD, eD, hD⟩ := draws_ex hL hO eL eO k (by omega)
    exact by_pick2 (fun g hg => s_l31Draw.ok (G := ⟨gL, gO, gD⟩) ⟨eL, eO, eD, trivial⟩ hg) fun c d ⟨hc, h0, h1⟩ => by
      obtain ⟨f, c', e, h2, h3⟩ := draw_main (gD := gD) hL hO 1 c hc d (by omega) (fun h c hc => hD c (d - 1) ⟨hc, by omega, by omega⟩)
      exact ⟨(f, c'), ⟨1, e _ _⟩, h2, h3⟩
theorem drawO_ex (hL : BelowP gL) (hO : OnceP gO) (eL : EntOK Try.prog (s_l1Below.ent gL)) (eO : EntOK Try.prog (s_l1Once.ent gO)) : ∃ g, EntOK Try.prog (s_l31Draw_o.ent g) ∧ ∀ c d, (Inv c ∧ 0 ≤ d ∧ d ≤ 3) → ∃ r, g c d = some r ∧ (r.1.total ≤ drawN d.toNat ∧ Inv r.2) := by
  obtain ⟨gD, eD, hD⟩ := draws_ex hL hO eL eO 3 (by omega)
  exact by_pick2 (fun g hg => s_l31Draw_o.ok (G := ⟨gL, gO, gD⟩) ⟨eL, eO, eD, trivial⟩ hg) fun c d ⟨hc, h0, h1⟩ => by
    obtain ⟨f, c', e, h2, h3⟩ := drawO_main (gD := gD) hL hO 1 c hc d (by omega) (fun h c hc => hD c (d - 1) ⟨hc, by omega, by omega⟩)
    exact ⟨(f, c'), ⟨1, e _ _⟩, h2, h3⟩
def BentP (g : Cur → Option (Fm × Cur)) : Prop := ∀ c, Inv c → ∃ r, g c = some r ∧ (r.1.total ≤ 20 ∧ Inv r.2)
theorem totals_app (a b : List Fm) : totals (a ++ b) = totals a + totals b := by simp [totals]; omega
theorem bent_ex {gE : Cur → Int → Option (Fm × Cur)} (hL : BelowP gL) (eL : EntOK Try.prog (s_l1Below.ent gL)) (eE : EntOK Try.prog (s_l31Draw_o.ent gE)) (hE : ∀ c d, (Inv c ∧ 0 ≤ d ∧ d ≤ 3) → ∃ r, gE c d = some r ∧ (r.1.total ≤ drawN d.toNat ∧ Inv r.2)) : ∃ g, EntOK Try.prog (s_l31Bent.ent g) ∧ BentP g :=
  by_pick (fun g hg => s_l31Bent.ok (G := ⟨gE, gL⟩) ⟨eE, eL, trivial⟩ hg) fun c hc => by
    obtain ⟨r, e, t1, i1⟩ := hE c 3 ⟨hc, by omega, by omega⟩
    obtain ⟨r2, e2, b0, b1, _, i2⟩ := hL r.2 14 ⟨i1, by omega⟩
    have t1 : r.1.total ≤ 14 := t1
    have te := Fm.total_eq r.1
    have key : ∃ f c', (∀ (R : Type) (K : Fm → Cur → Option R), s_l31Bent.main ⟨gE, gL⟩ 1 c K = K f c') ∧ f.total ≤ 20 ∧ Inv c' := by
      unfold s_l31Bent.main
      simp only [e, e2, Option.bind_some]
      by_cases h0 : r2.1 = 0
      · exact ⟨⟨r.1.kind, 8, r.1.kids⟩, r2.2, fun R K => by simp [h0], by rw [Fm.total_eq]; show totals r.1.kids ≤ 20; omega, i2⟩
      by_cases h1 : r2.1 = 1
      · have hk : r.1.kids.length ≤ 14 := by
          have : r.1.kids.length ≤ totals r.1.kids := by simp [totals]
          omega
        have ht : totals [(⟨1, 0, []⟩ : Fm)] = 1 := by simp [totals, total0]
        refine ⟨⟨r.1.kind, r.1.prop, r.1.kids ++ [⟨1, 0, []⟩]⟩, r2.2, fun R K => by simp only [h1]; rw [lim_eq (by simp; omega)]; rfl, ?_, i2⟩
        rw [Fm.total_eq]
        show totals (r.1.kids ++ _) ≤ 20
        rw [totals_app]
        omega
      by_cases h3 : r2.1 = 2
      · obtain ⟨r3, e3, _, _, _, i3⟩ := hL r2.2 10 ⟨i2, by omega⟩
        exact ⟨⟨wr (r3.1 - 1), r.1.prop, r.1.kids⟩, r3.2, fun R K => by simp [h3, e3], by rw [Fm.total_eq]; show totals r.1.kids ≤ 20; omega, i3⟩
      · exact ⟨r.1, r2.2, fun R K => by simp [h0, h1, h3], by omega, i2⟩
    obtain ⟨f, c', k1, k2, k3⟩ := key
    exact ⟨(f, c'), ⟨1, k1 _ _⟩, k2, k3⟩
end
end Go.Proofs.Ytagnfckihdlhpaa.Den

/-
  The draw of a formula, a lasso and labels: it ends, and what is known of it.
-/
namespace Go.Proofs.Ytagnfckihdlhpaa.Den
open Go.RowKit

section
variable {gL : Cur → Int → Option (Int × Cur)} {gO : Cur → Int → Option (Bool × Cur)}
theorem lasso_loop {R : Type} (hL : BelowP gL) (n : Nat) (most N : Int) (hM : most ≤ 256) (hN : N ≤ 256) (a : Int) (b : List Int) (d : Int) (k : Int → List Int → Int → Int → Int → List Int → Int → List Int → Option R) : ∀ m (i : Int) (c : Cur) (xs : List Int), 0 ≤ i → i ≤ N → Inv c → xs.length = i → (N - i).toNat < m →
    ∃ c' ys, s_l31Lasso.l4 ⟨gL, gO⟩ n m most N i c.b c.i c.h a b d xs k = k N c'.b c'.i c'.h a b d ys ∧ Inv c' ∧ ys.length = N := by
  intro m
  induction m with
  | zero => intro i c xs _ _ _ _ hm; omega
  | succ m ih =>
    intro i c xs h0 h1 hc hx hm
    show ∃ c' ys, s_l31Lasso.b4 ⟨gL, gO⟩ n most N i c.b c.i c.h a b d xs (fun y0 y1 y2 y3 y4 y5 y6 y7 y8 y9 => s_l31Lasso.l4 ⟨gL, gO⟩ n m y0 y1 y2 y3 y4 y5 y6 y7 y8 y9 k) k = _ ∧ _
    unfold s_l31Lasso.b4
    by_cases hi : i < N
    · obtain ⟨r, e, _, _, _, h3⟩ := hL c most ⟨hc, hM⟩
      simp only [hi, decide_true, cond_true, Cur.eta, e, Option.bind_some]
      rw [lim_eq (by simp; omega), wr_in (x := i + 1) (by omega)]
      exact ih (i + 1) r.2 (xs ++ [r.1]) (by omega) (by omega) h3 (by simp; omega) (by omega)
    · exact ⟨c, xs, by simp [hi], hc, by omega⟩
def LassoP (g : Cur → Int → Option (Lasso × Cur)) : Prop := ∀ c n, (Inv c ∧ n ≤ 256) → ∃ r, g c n = some r ∧ (1 ≤ r.1.states.length ∧ r.1.states.length ≤ 6 ∧ Inv r.2)
theorem lasso_ex (hL : BelowP gL) (hO : OnceP gO) (eL : EntOK Try.prog (s_l1Below.ent gL)) (eO : EntOK Try.prog (s_l1Once.ent gO)) : ∃ g, EntOK Try.prog (s_l31Lasso.ent g) ∧ LassoP g :=
  by_pick2 (fun g hg => s_l31Lasso.ok (G := ⟨gL, gO⟩) ⟨eL, eO, trivial⟩ hg) fun c most ⟨hc, hM⟩ => by
    obtain ⟨r, e, b0, b1, _, h1⟩ := hL c 6 ⟨hc, by omega⟩
    have b1 := b1 (by omega)
    have ek : wr (1 + r.1) = 1 + r.1 := wr_in (by omega)
    have key : ∃ l c', s_l31Lasso.main ⟨gL, gO⟩ 1000 c most (fun (l : Lasso) (c : Cur) => some (AT.agg (explode (.n 0) l), [Ob.box (explode (.n 12) c)])) = some (AT.agg (explode (.n 0) l), [Ob.box (explode (.n 12) c')]) ∧ 1 ≤ l.states.length ∧ l.states.length ≤ 6 ∧ Inv c' := by
      unfold s_l31Lasso.main
      simp only [e, Option.bind_some, ek]
      obtain ⟨c', ys, e1, i1, l1⟩ := lasso_loop (gO := gO) hL 1000 most (1 + r.1) hM (by omega) 0 [] 0 (fun n1 h0 h02 h03 h1 h2 h3 h4 =>
        Option.bind (gL (Cur.mk h0 h02 h03) n1) fun r2 => Option.bind (gO r2.2 20) fun r3 => bif r3.1 then some (AT.agg (explode (.n 0) (Lasso.mk h4 n1)), [Ob.box (explode (.n 12) r3.2)]) else some (AT.agg (explode (.n 0) (Lasso.mk h4 r2.1)), [Ob.box (explode (.n 12) r3.2)])) 1000 0 r.2 [] (by omega) (by omega) h1 rfl (by omega)
      obtain ⟨r2, e2, _, _, _, i2⟩ := hL c' (1 + r.1) ⟨i1, by omega⟩
      obtain ⟨r3, e3, i3⟩ := hO r2.2 20 ⟨i2, by omega⟩
      simp only [Cur.eta, e2, e3, Option.bind_some] at e1
      cases hb : r3.1 with
      | true => exact ⟨⟨ys, 1 + r.1⟩, r3.2, by rw [hb] at e1; exact e1, by simp only; omega, by simp only; omega, i3⟩
      | false => exact ⟨⟨ys, r2.1⟩, r3.2, by rw [hb] at e1; exact e1, by simp only; omega, by simp only; omega, i3⟩
    obtain ⟨l, c', k1, k2, k3, k4⟩ := key
    exact ⟨(l, c'), ⟨1000, k1⟩, k2, k3, k4⟩
end

def DrawHP (g : List Int → Option (Fm × Lasso × List Int)) : Prop := ∀ code, code.length ≤ 1048576 → ∃ r, g code = some r ∧ (r.1.total ≤ 20 ∧ 1 ≤ r.2.1.states.length ∧ r.2.1.states.length ≤ 6 ∧ 1 ≤ r.2.2.length ∧ ((∀ x ∈ r.2.2, 0 ≤ x ∧ x ≤ 255) ∨ ∃ x, r.2.2[0]? = some x ∧ 255 < x))
theorem drawH_ex : ∃ g, EntOK Try.prog (s_DrawHoldsOn.ent g) ∧ DrawHP g := by
  obtain ⟨gB, eB, hB⟩ := byte_ex
  obtain ⟨gL, eL, hL⟩ := below_ex eB hB
  obtain ⟨gO, eO, hO⟩ := once_ex eL hL
  obtain ⟨gN, eN, hN⟩ := new_ex
  obtain ⟨gM, eM, hM⟩ := marks_ex eL hL
  obtain ⟨gE, eE, hE⟩ := drawO_ex hL hO eL eO
  obtain ⟨gT, eT, hT⟩ := bent_ex hL eL eE hE
  obtain ⟨gS, eS, hS⟩ := lasso_ex hL hO eL eO
  refine by_pick (fun g hg => s_DrawHoldsOn.ok (G := ⟨gN, gT, gL, gM, gO, gS⟩) ⟨eN, eT, eL, eM, eO, eS, trivial⟩ hg) fun code hl => ?_
  obtain ⟨c0, e0, i0⟩ := hN code hl
  obtain ⟨r2, e2, t2, i2⟩ := hT c0 i0
  obtain ⟨r3, e3, b0, b1, _, i3⟩ := hL r2.2 5 ⟨i2, by omega⟩
  have b1 := b1 (by omega)
  have ek : wr (1 + r3.1) = 1 + r3.1 := wr_in (by omega)
  obtain ⟨r4, e4, l4, m4, i4⟩ := hM r3.2 (1 + r3.1) ⟨i3, by omega, by omega⟩
  obtain ⟨r5, e5, i5⟩ := hO r4.2 20 ⟨i4, by omega⟩
  obtain ⟨r6, e6, a0, a1, _, i6⟩ := hL r5.2 12 ⟨i5, by omega⟩
  have a1 := a1 (by omega)
  have hq : r6.1 / 11 = 0 ∨ r6.1 / 11 = 1 := by omega
  have ew : wr (1 + r3.1 + r6.1 / 11) = 1 + r3.1 + r6.1 / 11 := wr_in (by omega)
  obtain ⟨r7, e7, s1, s2, _⟩ := hS r6.2 (1 + r3.1 + r6.1 / 11) ⟨i6, by omega⟩
  have c7 : ∀ (a b : Int) (l : List Fm) (d : Int) (l2 xs : List Int) (R : Type) (k : Int → Int → List Fm → List Int → Int → List Int → Option R), s_DrawHoldsOn.c7 ⟨gN, gT, gL, gM, gO, gS⟩ 1 (1 + r3.1) a b l d l2 r5.2.b r5.2.i r5.2.h r2.1.kind r2.1.prop r2.1.kids xs k = k r2.1.kind r2.1.prop r2.1.kids r7.1.states r7.1.back xs := fun a b l d l2 xs R k => by
    unfold s_DrawHoldsOn.c7
    simp [e6, a0, ew, e7]
  have key : ∃ f l ls, (∀ (R : Type) (K : Fm → Lasso → List Int → Option R), s_DrawHoldsOn.main ⟨gN, gT, gL, gM, gO, gS⟩ 1 code K = K f l ls) ∧ f.total ≤ 20 ∧ 1 ≤ l.states.length ∧ l.states.length ≤ 6 ∧ 1 ≤ ls.length ∧ ((∀ x ∈ ls, 0 ≤ x ∧ x ≤ 255) ∨ ∃ x, ls[0]? = some x ∧ 255 < x) := by
    unfold s_DrawHoldsOn.main
    simp only [e0, e2, e3, Option.bind_some, ek, e4, e5]
    cases hb : r5.1 with
    | true =>
      obtain ⟨x, hx, _⟩ := ix_in (xs := r4.1) (i := 0) (by omega) (by omega)
      exact ⟨r2.1, r7.1, List.set r4.1 (Int.toNat 0) 256, fun R K => by simp only [cond_true, hx, Option.bind_some, c7, Fm.eta], t2, s1, s2, by simp; omega, .inr ⟨256, by
        have : 0 < r4.1.length := by omega
        simp [this], by omega⟩⟩
    | false => exact ⟨r2.1, r7.1, r4.1, fun R K => by simp only [cond_false, c7, Fm.eta], t2, s1, s2, by omega, .inl m4⟩
  obtain ⟨f, l, ls, k1, k2⟩ := key
  exact ⟨(f, l, ls), ⟨1, k1 _ _⟩, k2⟩
end Go.Proofs.Ytagnfckihdlhpaa.Den

/-
  What the laws' functions on []int compute: szIntS, toIntS, eqIntS; spec.l1In.
-/
namespace Go.Proofs.Ytagnfckihdlhpaa
open Go.RowKit

theorem ret_int {k : IntKind} {a b : Int} (h : a = b) : Ending.returned (.int k a) = .returned (.int k b) := by rw [h]

theorem ret_bool {a b : Bool} (h : a = b) : Ending.returned (.bool a) = .returned (.bool b) := by rw [h]

/-- What szIntS and its kind leave of 'left' when n is taken from it. -/
def took (left n : Int) : Int := if left - n < 0 then -1 else left - n

set_option maxHeartbeats 400000 in
theorem szIntS_any (xs : List Int) (left : Int) (w : World) (S : Nat → Prop) (v : Value) (h : At w S (ints xs) v) (h0 : -1 ≤ left) (h1 : left ≤ 1048576) :
    Calls Try.prog 38 #[v, .int .i64 left] w fun e w' => e = .returned (.int .i64 (took left xs.length)) ∧ w = w' := by
  obtain ⟨A, c, rfl, hn, hc⟩ := ints_slice h
  go_enter Try.func38, Try.ntmps38
  go_wp2
  all_goals go_ret
  · exact ⟨ret_int (by unfold took; rw [if_pos (by omega)]), rfl⟩
  · exact ⟨ret_int (by unfold took; rw [if_neg (by omega)]), rfl⟩

theorem Try.info3 : (Try.prog.info? 3).map (fun i => (i.zero, i.size, i.bytes)) = some (some (.int .i64 0), 1, 8) := by kernel_rfl

set_option maxHeartbeats 400000 in
theorem toIntS_any (xs : List Int) (w : World) (S : Nat → Prop) (v : Value) (h : At w S (ints xs) v) (h1 : xs.length ≤ 1048576) :
    Calls Try.prog 31 #[v] w fun e w' => ∃ v', e = .returned v' ∧ At w' (From w.heap.size) (ints xs) v' ∧ Below w.heap.size w w' := by
  obtain ⟨A, c, rfl, hn, hc⟩ := ints_slice h
  have hmk := run_make_row' (P := Try.prog) 22 3 (.int .i64 0) 8 Try.underlying22 Try.info3 rfl .i64 .i64 xs.length (by omega) (by omega)
  go_enter Try.func31, Try.ntmps31
  go_wp2
  go_loopw [4] (fun i wr => ∃ (k : Nat) (cs : Array Value), k ≤ xs.length ∧ i = .int .i64 k ∧ Blk wr w.heap.size 3 cs ∧ cs.size = xs.length ∧ (∀ j, j < k → cs[j]? = some (.int .i64 (xs.getD j 0))) ∧ Below w.heap.size w wr)
    (fun i _ => xs.length - (intOf i).toNat)
  case atStart => exact ⟨0, _, Nat.zero_le _, rfl, Blk.new _ _ _, by simp [madeCells], fun j hj => by omega, (Below.refl _ _).alloc (Nat.le_refl _) _⟩
  case round =>
    obtain ⟨k, cs, hk, rfl, hblk, hsz, hdone, hb⟩ := hrel
    by_cases hlt : k < xs.length
    · obtain ⟨b, off, rfl, _, hlb, hcell⟩ := ints_at h (by omega)
      obtain ⟨hc1, hwf⟩ := hcell k hlt
      have hc2 : wr.cell? ⟨b, off + k, none⟩ = some (.int .i64 (xs.getD k 0)) := (hb.cell (p := ⟨b, off + k, none⟩) hlb).trans hc1
      have hc3 : ∃ u, wr.cell? ⟨w.heap.size, k, none⟩ = some u := ⟨cs[k]'(by omega), by rw [hblk.cell]; simp [hsz, hlt]⟩
      obtain ⟨u, hc3⟩ := hc3
      have hfz := hblk.frozen k
      have HS := Lib.hid hsz
      have HD := Lib.hid hdone
      have HB := Lib.hid hblk
      clear hsz hdone hcell hc1 hblk hmk
      go_wp2
      go_roundw
      case rel =>
        refine ⟨k + 1, _, by omega, by go_num, HB.out.set_ k _, by simpa using HS.out, fun j hj => ?_, hb.setCell (by simp) _⟩
        by_cases hjk : j = k
        · subst hjk; simp [HS.out, hlt]
        · rw [Array.getElem?_setIfInBounds_ne (by omega)]; exact HD.out j (by omega)
      case measure => simp [intOf]; omega
    · have HS := Lib.hid hsz
      have HD := Lib.hid hdone
      have HB := Lib.hid hblk
      clear hsz hdone hblk hmk
      go_wp2
      go_ret
      refine ⟨_, rfl, ints_mk (Nat.le_refl _) (by omega) fun _ => ⟨w.heap.size, 0, rfl, Nat.le_refl _, fun j hj => ⟨?_, ?_⟩⟩, hb⟩
      · rw [HB.out.cell]; simpa using HD.out j (by omega)
      · obtain ⟨b, off, _, _, _, hcell⟩ := ints_at h (by omega)
        exact (hcell j hj).2

def inB (x lo hi : Int) : Bool := decide (lo ≤ x ∧ x ≤ hi)
theorem inB_true {x lo hi : Int} : inB x lo hi = true ↔ lo ≤ x ∧ x ≤ hi := by simp [inB]
theorem inB_false {x lo hi : Int} : inB x lo hi = false ↔ ¬ (lo ≤ x ∧ x ≤ hi) := by simp [inB]
theorem l1In_any (x lo hi : Int) (w : World) :
    Calls Try.prog 39 #[.int .i64 x, .int .i64 lo, .int .i64 hi] w fun e w' => e = .returned (.bool (inB x lo hi)) ∧ w = w' := by
  by_cases ha : lo ≤ x
  · by_cases hb : x ≤ hi
    · go_enter Try.func39, Try.ntmps39
      go_wp2
      go_ret
      exact ⟨ret_bool (by symm; first | (rw [inB_true]; omega) | (rw [inB_false]; omega)), rfl⟩
    · go_enter Try.func39, Try.ntmps39
      go_wp2
      go_ret
      exact ⟨ret_bool (by symm; first | (rw [inB_true]; omega) | (rw [inB_false]; omega)), rfl⟩
  · go_enter Try.func39, Try.ntmps39
    go_wp2
    go_ret
    exact ⟨ret_bool (by symm; first | (rw [inB_true]; omega) | (rw [inB_false]; omega)), rfl⟩

theorem take_eq_succ {α : Type} {xs ys : List α} {k : Nat} {x y : α} (hx : xs[k]? = some x) (hy : ys[k]? = some y) (h : xs.take k = ys.take k) (e : x = y) : xs.take (k + 1) = ys.take (k + 1) := by
  obtain ⟨h1, rfl⟩ := List.getElem?_eq_some_iff.1 hx
  obtain ⟨h2, rfl⟩ := List.getElem?_eq_some_iff.1 hy
  rw [List.take_succ_eq_append_getElem h1, List.take_succ_eq_append_getElem h2, h, e]

set_option maxHeartbeats 400000 in
theorem eqIntS_any (xs ys : List Int) (w : World) (S T : Nat → Prop) (v u : Value) (h : At w S (ints xs) v) (g : At w T (ints ys) u) :
    Calls Try.prog 32 #[v, u] w fun e w' => e = .returned (.bool (decide (xs = ys))) ∧ Below w.heap.size w w' := by
  obtain ⟨A, c, rfl, hn, hc⟩ := ints_slice h
  obtain ⟨A', c', rfl, hn', hc'⟩ := ints_slice g
  by_cases hl : xs.length = ys.length
  · have hl' : ((xs.length : Int) != (ys.length : Int)) = false := by simp [hl]
    have HL := Lib.hid hl
    clear hl
    go_enter Try.func32, Try.ntmps32
    go_wp2
    go_loopw [5] (fun i wr => ∃ k : Nat, k ≤ xs.length ∧ i = .int .i64 k ∧ xs.take k = ys.take k ∧ Below w.heap.size w wr) (fun i _ => xs.length - (intOf i).toNat)
    case atStart => exact ⟨0, Nat.zero_le _, rfl, rfl, Below.refl _ _⟩
    case round =>
      obtain ⟨k, hk, rfl, hd, hb⟩ := hrel
      have HD := Lib.hid hd
      clear hd
      by_cases hlt : k < xs.length
      · have hlt' : k < ys.length := by rw [← HL.out]; exact hlt
        obtain ⟨b, off, x, rfl, _, hlb, hc1, HX, _⟩ := ints_get (h.below hb) hlt
        obtain ⟨b', off', y, rfl, _, hlb', hc2, HY, _⟩ := ints_get (g.below hb) hlt'
        have hi1 : (k : Int) < (xs.length : Int) := by omega
        have hi2 : (k : Int) < (ys.length : Int) := by omega
        by_cases he : x = y
        · subst he
          have he' : (x != x) = false := by simp
          go_wp2
          go_quiet (fail)
          go_wp2
          go_roundw
          case rel => exact ⟨k + 1, by omega, by go_num, take_eq_succ HX.out HY.out HD.out rfl, below_drewN hb _⟩
          case measure => simp [intOf]; omega
        · have he' : (x != y) = true := by simpa using he
          have HE := Lib.hid he
          clear he
          go_wp2
          go_quiet (fail)
          go_wp2
          go_ret
          refine ⟨?_, below_drewN hb _⟩
          have : ¬ xs = ys := fun e => HE.out (by have := HX.out; have := HY.out; simp_all)
          simp [this]
      · go_wp2
        go_ret
        refine ⟨?_, hb⟩
        have hx := HD.out
        rw [List.take_of_length_le (by omega), List.take_of_length_le (by have := HL.out; omega)] at hx
        simp [hx]
  · have hl' : ((xs.length : Int) != (ys.length : Int)) = true := by rw [bne_iff_ne]; omega
    have HL := Lib.hid hl
    clear hl
    go_enter Try.func32, Try.ntmps32
    go_wp2
    go_ret
    have : ¬ xs = ys := fun e => HL.out (by rw [e])
    exact ⟨by simp [this], Below.refl _ _⟩

end Go.Proofs.Ytagnfckihdlhpaa

/-
  What the functions on lassos compute: szLasso, toLasso, eqLasso, and IsLasso of the reference and of the program.
-/
namespace Go.Proofs.Ytagnfckihdlhpaa
open Go.RowKit

theorem took_neg {left n : Int} (h : took left n < 0) : took left n = -1 := by
  unfold took at h ⊢
  split at h <;> simp_all <;> omega
theorem took_range {left n : Int} (h1 : left ≤ 1048576) (hn : 0 ≤ n) : -1 ≤ took left n ∧ took left n ≤ 1048576 := by
  unfold took
  split <;> omega

set_option maxHeartbeats 400000 in
theorem szLasso_any (xs : List Int) (back left : Int) (w : World) (S : Nat → Prop) (v : Value) (h : At w S (ints xs) v) (h0 : -1 ≤ left) (h1 : left ≤ 1048576) :
    Calls Try.prog 10 #[.agg #[v, .int .i64 back], .int .i64 left] w fun e w' => e = .returned (.int .i64 (took left xs.length)) ∧ Below w.heap.size w w' := by
  obtain ⟨A, c, rfl, hn, hc⟩ := ints_slice h
  go_enter Try.func10, Try.ntmps10
  go_wp2_with (go_at_call 38; refine (szIntS_any xs _ _ S _ (h.alloc _) (by omega) (by omega)).mono ?_; rintro e w' ⟨rfl, rfl⟩)
  all_goals go_ret
  · exact ⟨ret_int (took_neg ‹_›).symm, (Below.refl _ _).alloc (Nat.le_refl _) _⟩
  · exact ⟨rfl, (Below.refl _ _).alloc (Nat.le_refl _) _⟩

set_option maxHeartbeats 400000 in
theorem toLasso_any (xs : List Int) (back : Int) (w : World) (S : Nat → Prop) (v : Value) (h : At w S (ints xs) v) (h1 : xs.length ≤ 1048576) :
    Calls Try.prog 12 #[.agg #[v, .int .i64 back]] w fun e w' => ∃ v', e = .returned (.agg #[v', .int .i64 back]) ∧ At w' (From w.heap.size) (ints xs) v' ∧ Below w.heap.size w w' := by
  obtain ⟨A, c, rfl, hn, hc⟩ := ints_slice h
  go_enter Try.func12, Try.ntmps12
  go_wp2_with fail
  refine (toIntS_any xs _ S _ (((h.alloc _).alloc _).alloc _) h1).mono ?_
  rintro e w1 ⟨v', rfl, ha, hb⟩
  obtain ⟨A', c', rfl, hn', hc'⟩ := ints_slice ha
  obtain ⟨hc1, hf1⟩ := bcell hb
  have hz : w.heap.size + 1 + 1 + 1 ≤ w1.heap.size := by have := hb.size; simpa using this
  go_wp2_with fail
  refine bodyPost_ret (v := .agg #[.slice A' xs.length c', .int .i64 back]) (by simp [results, Try.results12, go_sem, hc1]) rfl ⟨_, rfl, ?_, ?_⟩
  · refine At.mono ((((ha.setCell ?_ _).setCell ?_ _).setCell ?_ _).setCell ?_ _) ?_ <;> simp [From] <;> omega
  · repeat (first | with_reducible exact Below.refl _ _ | with_reducible refine Below.setCell ?_ (by first | omega | (simp <;> omega)) _ | with_reducible refine Below.drew ?_ | with_reducible refine below_drewN ?_ _ | with_reducible refine Below.alloc ?_ (by first | omega | (simp <;> omega)) _ | with_reducible refine Below.trans ?_ (Below.mono (by assumption) (by first | omega | (simp <;> omega))))

set_option maxHeartbeats 400000 in
theorem eqLasso_any (xs ys : List Int) (b1 b2 : Int) (w : World) (S T : Nat → Prop) (v u : Value) (h : At w S (ints xs) v) (g : At w T (ints ys) u) :
    Calls Try.prog 14 #[.agg #[v, .int .i64 b1], .agg #[u, .int .i64 b2]] w fun e w' => e = .returned (.bool (decide (xs = ys ∧ b1 = b2))) ∧ Below w.heap.size w w' := by
  obtain ⟨A, c, rfl, hn, hc⟩ := ints_slice h
  obtain ⟨A', c', rfl, hn', hc'⟩ := ints_slice g
  go_enter Try.func14, Try.ntmps14
  go_wp2_with fail
  refine (eqIntS_any xs ys _ S T _ _ ((h.alloc _).alloc _) ((g.alloc _).alloc _)).mono ?_
  rintro e w1 ⟨rfl, hb⟩
  obtain ⟨hc1, hf1⟩ := bcell hb
  go_wp2_with fail
  all_goals
    go_ret
    refine ⟨ret_bool ?_, ?_⟩
    · clear hc1 hf1 hb h g
      simp_all
    · repeat (first | with_reducible exact Below.refl _ _ | with_reducible refine Below.setCell ?_ (by first | omega | (simp <;> omega)) _ | with_reducible refine Below.drew ?_ | with_reducible refine below_drewN ?_ _ | with_reducible refine Below.alloc ?_ (by first | omega | (simp <;> omega)) _ | with_reducible refine Below.trans ?_ (Below.mono (by assumption) (by first | omega | (simp <;> omega))))

/-- What a lasso is. -/
def isLasso (xs : List Int) (back : Int) : Bool := decide (1 ≤ xs.length ∧ xs.length ≤ 40 ∧ 0 ≤ back ∧ back < xs.length ∧ ∀ x ∈ xs, 0 ≤ x)

theorem all_take_succ {α : Type} {xs : List α} {p : α → Prop} {k : Nat} {x : α} (hx : xs[k]? = some x) (h : ∀ y ∈ xs.take k, p y) (hp : p x) : ∀ y ∈ xs.take (k + 1), p y := by
  obtain ⟨h1, rfl⟩ := List.getElem?_eq_some_iff.1 hx
  rw [List.take_succ_eq_append_getElem h1]
  intro y hy
  rcases List.mem_append.1 hy with hy | hy
  · exact h y hy
  · simp at hy; subst hy; exact hp

set_option maxHeartbeats 400000 in
theorem implIsLasso_any (xs : List Int) (back : Int) (w : World) (S : Nat → Prop) (v : Value) (h : At w S (ints xs) v) :
    Calls Try.prog 13 #[.agg #[v, .int .i64 back]] w fun e w' => e = .returned (.bool (isLasso xs back)) ∧ Below w.heap.size w w' := by
  obtain ⟨A, c, rfl, hn, hc⟩ := ints_slice h
  go_enter Try.func13, Try.ntmps13
  go_wp2_with fail
  go_loop [9] (fun i => ∃ k : Nat, k ≤ xs.length ∧ i = .int .i64 k ∧ ∀ y ∈ xs.take k, 0 ≤ y) (fun i => xs.length - (intOf i).toNat)
  case atStart => exact ⟨0, Nat.zero_le _, rfl, by simp⟩
  case round =>
    obtain ⟨k, hk, rfl, hd⟩ := hrel
    have HD := Lib.hid hd
    clear hd
    by_cases hlt : k < xs.length
    · obtain ⟨b, off, x, rfl, _, hlb, hc1, HX, _⟩ := ints_get (h.alloc (Obj.cells #[Value.slice A xs.length c, Value.int IntKind.i64 back] 27)) hlt
      go_wp2_with fail
      · go_ret
        refine ⟨ret_bool ?_, ?_⟩
        · symm
          simp only [isLasso, decide_eq_false_iff_not]
          intro hh
          have := hh.2.2.2.2 x (List.mem_of_getElem? HX.out)
          omega
        · repeat (first | with_reducible exact Below.refl _ _ | with_reducible refine Below.setCell ?_ (by first | omega | (simp <;> omega)) _ | with_reducible refine Below.drew ?_ | with_reducible refine below_drewN ?_ _ | with_reducible refine Below.alloc ?_ (by first | omega | (simp <;> omega)) _ | with_reducible refine Below.trans ?_ (Below.mono (by assumption) (by first | omega | (simp <;> omega))))
      · go_round
        case rel => exact ⟨k + 1, by omega, by go_num, all_take_succ HX.out HD.out (by omega)⟩
        case measure => simp [intOf]; omega
    · have hall : ∀ y ∈ xs, 0 ≤ y := by have := HD.out; rwa [List.take_of_length_le (by omega)] at this
      have HA := Lib.hid hall
      clear hall
      go_wp2_with fail
      all_goals
        go_ret
        refine ⟨ret_bool ?_, ?_⟩
        · simp only [isLasso]
          first
            | (rw [decide_eq_decide]; exact ⟨fun hh => ⟨by omega, by omega, by omega, hh, HA.out⟩, fun hh => hh.2.2.2.1⟩)
            | (symm; rw [decide_eq_false_iff_not]; omega)
        · repeat (first | with_reducible exact Below.refl _ _ | with_reducible refine Below.setCell ?_ (by first | omega | (simp <;> omega)) _ | with_reducible refine Below.drew ?_ | with_reducible refine below_drewN ?_ _ | with_reducible refine Below.alloc ?_ (by first | omega | (simp <;> omega)) _ | with_reducible refine Below.trans ?_ (Below.mono (by assumption) (by first | omega | (simp <;> omega))))

set_option maxHeartbeats 400000 in
theorem specIsLasso_any (xs : List Int) (back : Int) (w : World) (S : Nat → Prop) (v : Value) (h : At w S (ints xs) v) :
    Calls Try.prog 11 #[.agg #[v, .int .i64 back]] w fun e w' => e = .returned (.bool (isLasso xs back)) ∧ Below w.heap.size w w' := by
  obtain ⟨A, c, rfl, hn, hc⟩ := ints_slice h
  by_cases h1 : 1 ≤ xs.length ∧ xs.length ≤ 40 ∧ 0 ≤ back ∧ back ≤ xs.length - 1
  · obtain ⟨h1, h2, h3, h4⟩ := h1
    have hd : inB back 0 ((xs.length : Int) - 1) = true := inB_true.2 (by omega)
    go_enter Try.func11, Try.ntmps11
    go_wp2_with (go_at_call 39; refine (l1In_any _ _ _ _).mono ?_; rintro e w' ⟨rfl, rfl⟩)
    go_loop [3] (fun i => ∃ k : Nat, k ≤ xs.length ∧ i = .int .i64 k ∧ ∀ y ∈ xs.take k, 0 ≤ y) (fun i => xs.length - (intOf i).toNat)
    case atStart => exact ⟨0, Nat.zero_le _, rfl, by simp⟩
    case round =>
      obtain ⟨k, hk, rfl, hd⟩ := hrel
      have HD := Lib.hid hd
      clear hd
      by_cases hlt : k < xs.length
      · obtain ⟨b, off, x, rfl, _, hlb, hc1, HX, _⟩ := ints_get (h.alloc (Obj.cells #[Value.slice A xs.length c, Value.int IntKind.i64 back] 27)) hlt
        go_wp2_with fail
        · go_ret
          refine ⟨ret_bool ?_, ?_⟩
          · symm
            simp only [isLasso, decide_eq_false_iff_not]
            intro hh
            have := hh.2.2.2.2 x (List.mem_of_getElem? HX.out)
            omega
          · repeat (first | with_reducible exact Below.refl _ _ | with_reducible refine Below.setCell ?_ (by first | omega | (simp <;> omega)) _ | with_reducible refine Below.drew ?_ | with_reducible refine below_drewN ?_ _ | with_reducible refine Below.alloc ?_ (by first | omega | (simp <;> omega)) _ | with_reducible refine Below.trans ?_ (Below.mono (by assumption) (by first | omega | (simp <;> omega))))
        · go_round
          case rel => exact ⟨k + 1, by omega, by go_num, all_take_succ HX.out HD.out (by omega)⟩
          case measure => simp [intOf]; omega
      · have hall : ∀ y ∈ xs, 0 ≤ y := by have := HD.out; rwa [List.take_of_length_le (by omega)] at this
        have HA := Lib.hid hall
        clear hall
        go_wp2_with fail
        go_ret
        refine ⟨ret_bool ?_, ?_⟩
        · symm
          simp only [isLasso, decide_eq_true_eq]
          exact ⟨by omega, by omega, by omega, by omega, HA.out⟩
        · repeat (first | with_reducible exact Below.refl _ _ | with_reducible refine Below.setCell ?_ (by first | omega | (simp <;> omega)) _ | with_reducible refine Below.drew ?_ | with_reducible refine below_drewN ?_ _ | with_reducible refine Below.alloc ?_ (by first | omega | (simp <;> omega)) _ | with_reducible refine Below.trans ?_ (Below.mono (by assumption) (by first | omega | (simp <;> omega))))
  · have HF : Hid (isLasso xs back = false) := by
      show isLasso xs back = false
      simp only [isLasso, decide_eq_false_iff_not]
      omega
    have hcase : xs.length < 1 ∨ 40 < xs.length ∨ (1 ≤ xs.length ∧ xs.length ≤ 40 ∧ inB back 0 ((xs.length : Int) - 1) = false) := by rw [inB_false]; omega
    clear h1
    rcases hcase with h1 | h1 | ⟨h1, h2, h3⟩
    all_goals
      go_enter Try.func11, Try.ntmps11
      go_wp2_with (go_at_call 39; refine (l1In_any _ _ _ _).mono ?_; rintro e w' ⟨rfl, rfl⟩)
      go_ret
      refine ⟨ret_bool HF.out.symm, ?_⟩
      repeat (first | with_reducible exact Below.refl _ _ | with_reducible refine Below.setCell ?_ (by first | omega | (simp <;> omega)) _ | with_reducible refine Below.drew ?_ | with_reducible refine below_drewN ?_ _ | with_reducible refine Below.alloc ?_ (by first | omega | (simp <;> omega)) _ | with_reducible refine Below.trans ?_ (Below.mono (by assumption) (by first | omega | (simp <;> omega))))

end Go.Proofs.Ytagnfckihdlhpaa

/-
  What szFormula, toFormula and eqFormula compute.
-/
namespace Go.Proofs.Ytagnfckihdlhpaa
open Go.RowKit

def SzF (f : Fm) : Prop := ∀ (left : Int) (w : World) (S : Nat → Prop) (v : Value), At w S (forms f.kids) v → -1 ≤ left → left ≤ 1048576 →
    Calls Try.prog 15 #[.agg #[.int .i64 f.kind, .int .i64 f.prop, v], .int .i64 left] w fun e w' => e = .returned (.int .i64 (took left f.total)) ∧ Below w.heap.size w w'

set_option maxHeartbeats 1000000 in
theorem szFormulaS_of (fs : List Fm) (ih : ∀ x ∈ fs, SzF x) (left : Int) (w : World) (S : Nat → Prop) (v : Value) (h : At w S (forms fs) v) (h0 : -1 ≤ left) (h1 : left ≤ 1048576) :
    Calls Try.prog 40 #[v, .int .i64 left] w fun e w' => e = .returned (.int .i64 (took left (totals fs))) ∧ Below w.heap.size w w' := by
  obtain ⟨A, c, rfl, hn, hc⟩ := forms_slice h
  have IH := Lib.hid ih
  clear ih
  by_cases hneg : left - fs.length < 0
  · have HT : Hid (took left (totals fs) = -1) := by
      show took left (totals fs) = -1
      unfold took totals
      rw [if_pos (by omega)]
    go_enter Try.func40, Try.ntmps40
    go_wp2_with fail
    go_ret
    exact ⟨ret_int HT.out.symm, Below.refl _ _⟩
  · go_enter Try.func40, Try.ntmps40
    go_wp2_with fail
    go_loopw [1, 5] (fun l i wr => ∃ k : Nat, k ≤ fs.length ∧ i = .int .i64 k ∧ 0 ≤ left - fs.length - sumTo fs k ∧ l = .int .i64 (left - fs.length - sumTo fs k) ∧ Below w.heap.size w wr) (fun _ i _ => fs.length - (intOf i).toNat)
    case atStart => exact ⟨0, Nat.zero_le _, rfl, by simp [sumTo]; omega, by simp [sumTo], Below.refl _ _⟩
    case round =>
      obtain ⟨k, hk, rfl, hge, rfl, hb⟩ := hrel
      by_cases hlt : k < fs.length
      · obtain ⟨b, off, f, u, rfl, _, hlb, hc1, hc2, hc3, hu, HX, _⟩ := forms_get (h.below hb) hlt
        have hmem := List.mem_of_getElem? HX.out
        have hs := sumTo_succ HX.out
        have hle := sumTo_le fs (k + 1)
        have HS := Lib.hid hs
        clear hs
        have hz := hb.size
        by_cases hng : left - fs.length - sumTo fs k - f.total < 0
        · have hng' : took (left - fs.length - sumTo fs k) f.total < 0 := by unfold took; rw [if_pos hng]; omega
          have HT : Hid (took left (totals fs) = -1) := by
            show took left (totals fs) = -1
            have := HS.out
            unfold took totals
            rw [if_pos (by omega)]
          go_wp2_with fail
          refine (IH.out f hmem _ _ S _ hu (by omega) (by omega)).mono ?_
          rintro e w1 ⟨rfl, hb1⟩
          go_wp2_with fail
          go_ret
          refine ⟨ret_int HT.out.symm, ?_⟩
          repeat (first | with_reducible exact Below.refl _ _ | with_reducible refine Below.setCell ?_ (by first | omega | (simp <;> omega)) _ | with_reducible refine Below.drew ?_ | with_reducible refine below_drewN ?_ _ | with_reducible refine Below.alloc ?_ (by first | omega | (simp <;> omega)) _ | with_reducible refine Below.trans ?_ (Below.mono (by assumption) (by first | omega | (simp <;> omega))))
        · have hng' : 0 ≤ took (left - fs.length - sumTo fs k) f.total := by unfold took; rw [if_neg hng]; omega
          have HT : Hid (took (left - fs.length - sumTo fs k) f.total = left - fs.length - sumTo fs (k + 1)) := by
            show took (left - fs.length - sumTo fs k) f.total = _
            have := HS.out
            unfold took
            rw [if_neg hng]
            omega
          go_wp2_with fail
          refine (IH.out f hmem _ _ S _ hu (by omega) (by omega)).mono ?_
          rintro e w1 ⟨rfl, hb1⟩
          go_wp2_with fail
          go_roundw
          case rel => exact ⟨k + 1, by omega, by go_num, by have := HT.out; omega, by rw [HT.out], by repeat (first | with_reducible exact Below.refl _ _ | with_reducible refine Below.setCell ?_ (by first | omega | (simp <;> omega)) _ | with_reducible refine Below.drew ?_ | with_reducible refine below_drewN ?_ _ | with_reducible refine Below.alloc ?_ (by first | omega | (simp <;> omega)) _ | with_reducible refine Below.trans ?_ (Below.mono (by assumption) (by first | omega | (simp <;> omega))))⟩
          case measure => simp [intOf]; omega
      · have hk' : k = fs.length := by omega
        have HT : Hid (took left (totals fs) = left - fs.length - sumTo fs k) := by
          show took left (totals fs) = left - fs.length - sumTo fs k
          rw [hk'] at hge ⊢
          rw [sumTo_all] at hge ⊢
          unfold took totals
          rw [if_neg (by omega)]
          omega
        clear hk'
        go_wp2_with fail
        go_ret
        exact ⟨ret_int HT.out.symm, hb⟩

set_option maxHeartbeats 400000 in
theorem szFormula_any (f : Fm) : SzF f := by
  induction f using Fm.induct with
  | h k q kids ih =>
    intro left w S v h h0 h1
    have IH := Lib.hid ih
    clear ih
    obtain ⟨A, c, rfl, hn, hc⟩ := forms_slice h
    have HT : Hid (Fm.total ⟨k, q, kids⟩ = totals kids) := Fm.total_eq _
    go_enter Try.func15, Try.ntmps15
    go_wp2_with fail
    refine (szFormulaS_of kids IH.out _ _ S _ (h.alloc _) (by omega) (by omega)).mono ?_
    rintro e w1 ⟨rfl, hb1⟩
    go_wp2_with fail
    all_goals go_ret
    · exact ⟨ret_int (by rw [HT.out]; exact (took_neg ‹_›).symm), by repeat (first | with_reducible exact Below.refl _ _ | with_reducible refine Below.setCell ?_ (by first | omega | (simp <;> omega)) _ | with_reducible refine Below.drew ?_ | with_reducible refine below_drewN ?_ _ | with_reducible refine Below.alloc ?_ (by first | omega | (simp <;> omega)) _ | with_reducible refine Below.trans ?_ (Below.mono (by assumption) (by first | omega | (simp <;> omega))))⟩
    · exact ⟨ret_int (by rw [HT.out]), by repeat (first | with_reducible exact Below.refl _ _ | with_reducible refine Below.setCell ?_ (by first | omega | (simp <;> omega)) _ | with_reducible refine Below.drew ?_ | with_reducible refine below_drewN ?_ _ | with_reducible refine Below.alloc ?_ (by first | omega | (simp <;> omega)) _ | with_reducible refine Below.trans ?_ (Below.mono (by assumption) (by first | omega | (simp <;> omega))))⟩
theorem szFormulaS_any (fs : List Fm) (left : Int) (w : World) (S : Nat → Prop) (v : Value) (h : At w S (forms fs) v) (h0 : -1 ≤ left) (h1 : left ≤ 1048576) :
    Calls Try.prog 40 #[v, .int .i64 left] w fun e w' => e = .returned (.int .i64 (took left (totals fs))) ∧ Below w.heap.size w w' :=
  szFormulaS_of fs (fun x _ => szFormula_any x) left w S v h h0 h1

end Go.Proofs.Ytagnfckihdlhpaa

/-
  What toFormula computes: a copy in new memory.
-/
namespace Go.Proofs.Ytagnfckihdlhpaa
open Go.RowKit

theorem Try.infoForm : (Try.prog.info? 38).map (fun i => (i.zero, i.size, i.bytes)) = some (some (.agg #[.int .i64 0, .int .i64 0, .slice none 0 0]), 3, 40) := by kernel_rfl

def ToF (f : Fm) : Prop := ∀ (w : World) (S : Nat → Prop) (v : Value), At w S (forms f.kids) v → f.total ≤ 1048576 →
    Calls Try.prog 17 #[.agg #[.int .i64 f.kind, .int .i64 f.prop, v]] w fun e w' => ∃ v', e = .returned (.agg #[.int .i64 f.kind, .int .i64 f.prop, v']) ∧ At w' (From w.heap.size) (forms f.kids) v' ∧ Below w.heap.size w w'

/-- What the row under copy holds when k elements are copied. -/
def ToRow (w : World) (B : Nat) (fs : List Fm) (k : Nat) (cs : Array Value) : Prop :=
  cs.size = fs.length * 3 ∧ ∀ (j : Nat) (f : Fm), j < k → fs[j]? = some f → ∃ v, cs[j * 3]? = some (.int .i64 f.kind) ∧ cs[j * 3 + 1]? = some (.int .i64 f.prop) ∧ cs[j * 3 + 2]? = some v ∧ At w (From B) (forms f.kids) v

theorem ToRow.step {w w1 : World} {B : Nat} {fs : List Fm} {k : Nat} {cs : Array Value} {f : Fm} {u : Value} (h : ToRow w B fs k cs) (hb : Below w.heap.size w w1) (hf : fs[k]? = some f) (ha : At w1 (From B) (forms f.kids) u) {p0 p1 p2 : Addr} {u0 u1 u2 : Value}
    (q0 : p0.block < B) (q1 : p1.block < B) (q2 : p2.block < B) :
    ToRow (((w1.setCell p0 u0).setCell p1 u1).setCell p2 u2) B fs (k + 1) (((cs.setIfInBounds (k * 3) (.int .i64 f.kind)).setIfInBounds (k * 3 + 1) (.int .i64 f.prop)).setIfInBounds (k * 3 + 2) u) := by
  obtain ⟨h1, h2⟩ := h
  have hk : k < fs.length := (List.getElem?_eq_some_iff.1 hf).1
  have keep : ∀ {d : D} {v : Value}, At w1 (From B) d v → At (((w1.setCell p0 u0).setCell p1 u1).setCell p2 u2) (From B) d v := fun h =>
    ((h.setCell (by simp [From]; omega) _).setCell (by simp [From]; omega) _).setCell (by simp [From]; omega) _
  refine ⟨by simpa using h1, fun j g hj hg => ?_⟩
  by_cases e : j = k
  · subst e
    rw [hf] at hg
    obtain rfl : f = g := by injection hg
    refine ⟨u, ?_, ?_, ?_, keep ha⟩ <;> simp [Array.getElem?_setIfInBounds, h1] <;> omega
  · obtain ⟨v, e0, e1, e2, hat⟩ := h2 j g (by omega) hg
    refine ⟨v, ?_, ?_, ?_, keep (hat.below hb)⟩
    · rw [Array.getElem?_setIfInBounds_ne (by omega), Array.getElem?_setIfInBounds_ne (by omega), Array.getElem?_setIfInBounds_ne (by omega)]; exact e0
    · rw [Array.getElem?_setIfInBounds_ne (by omega), Array.getElem?_setIfInBounds_ne (by omega), Array.getElem?_setIfInBounds_ne (by omega)]; exact e1
    · rw [Array.getElem?_setIfInBounds_ne (by omega), Array.getElem?_setIfInBounds_ne (by omega), Array.getElem?_setIfInBounds_ne (by omega)]; exact e2

theorem total_le_of_mem {fs : List Fm} {f : Fm} (h : f ∈ fs) : f.total ≤ (fs.map Fm.total).sum := by
  induction fs with
  | nil => cases h
  | cons a l ih =>
    rw [List.map_cons, List.sum_cons]
    rcases List.mem_cons.1 h with rfl | h
    · omega
    · have := ih h; omega

/-- The bounds of the numbers of formulas that lie in memory. -/
theorem forms_wf {w : World} {S : Nat → Prop} {fs : List Fm} {v : Value} (h : At w S (forms fs) v) {k : Nat} {f : Fm} (hk : fs[k]? = some f) : (Lit.int .i64 f.kind).wf = true ∧ (Lit.int .i64 f.prop).wf = true := by
  obtain ⟨A, c, rfl, _⟩ := forms_slice h
  obtain ⟨_, _, g, _, _, _, _, _, _, _, _, hg, b1, b2, b3, b4⟩ := forms_get h (List.getElem?_eq_some_iff.1 hk).1
  have hg' := hg.out
  rw [hk] at hg'
  obtain rfl : f = g := by injection hg'
  exact ⟨WalkArith.wf_i64 ⟨b1, b2⟩, WalkArith.wf_i64 ⟨b3, b4⟩⟩

set_option maxHeartbeats 1000000 in
theorem toFormulaS_of (fs : List Fm) (ih : ∀ x ∈ fs, ToF x) (w : World) (S : Nat → Prop) (v : Value) (h : At w S (forms fs) v) (h1 : totals fs ≤ 1048576) :
    Calls Try.prog 43 #[v] w fun e w' => ∃ v', e = .returned v' ∧ At w' (From w.heap.size) (forms fs) v' ∧ Below w.heap.size w w' := by
  obtain ⟨A, c, rfl, hn, hc⟩ := forms_slice h
  have IH := Lib.hid ih
  clear ih
  unfold totals at h1
  have hmk := make_rowN (P := Try.prog) 36 38 _ 3 40 Try.underlying36 Try.infoForm fs.length (by omega) (by omega)
  go_enter Try.func43, Try.ntmps43
  go_wp2_with fail
  go_loopw [4] (fun i wr => ∃ (k : Nat) (cs : Array Value), k ≤ fs.length ∧ i = .int .i64 k ∧ Blk wr w.heap.size 38 cs ∧ ToRow wr (w.heap.size + 1) fs k cs ∧ Below w.heap.size w wr)
    (fun i _ => fs.length - (intOf i).toNat)
  case atStart => exact ⟨0, _, Nat.zero_le _, rfl, Blk.new _ _ _, ⟨made_size _ _, fun j _ hj => by omega⟩, (Below.refl _ _).alloc (Nat.le_refl _) _⟩
  case round =>
    obtain ⟨k, cs, hk, rfl, hblk, hrow, hb⟩ := hrel
    have HB := Lib.hid hblk
    have HR := Lib.hid hrow
    clear hblk hrow hmk
    by_cases hlt : k < fs.length
    · obtain ⟨b, off, f, u, rfl, _, hlb, hc1, hc2, hc3, hu, HX, _⟩ := forms_get (h.below hb) hlt
      have hmem := List.mem_of_getElem? HX.out
      have hle := total_le_of_mem hmem
      have hbs := HB.out.lt
      go_wp2_with fail
      refine (IH.out f hmem _ S _ hu (by omega)).mono ?_
      rintro e w1 ⟨v', rfl, ha, hb1⟩
      obtain ⟨A', c', rfl, hn', hc'⟩ := forms_slice ha
      have HB1 := Lib.hid (HB.out.next hb1)
      have hsz := HR.out.1
      obtain ⟨d0, e0⟩ : ∃ d, w1.cell? ⟨w.heap.size, k * 3, none⟩ = some d := ⟨_, (HB1.out.cell _).trans (Array.getElem?_eq_getElem (by omega))⟩
      obtain ⟨d1, e1⟩ : ∃ d, w1.cell? ⟨w.heap.size, k * 3 + 1, none⟩ = some d := ⟨_, (HB1.out.cell _).trans (Array.getElem?_eq_getElem (by omega))⟩
      obtain ⟨d2, e2⟩ : ∃ d, w1.cell? ⟨w.heap.size, k * 3 + 2, none⟩ = some d := ⟨_, (HB1.out.cell _).trans (Array.getElem?_eq_getElem (by omega))⟩
      have f0 := HB1.out.frozen (k * 3)
      have f1 := HB1.out.frozen (k * 3 + 1)
      have f2 := HB1.out.frozen (k * 3 + 2)
      clear hsz
      go_wp2_with fail
      go_roundw
      case rel => exact ⟨k + 1, _, by omega, by go_num, ((HB1.out.set_ _ _).set_ _ _).set_ _ _, HR.out.step hb1 HX.out (ha.mono (by simp only [From]; omega)) (by simp) (by simp) (by simp), by repeat (first | with_reducible exact Below.refl _ _ | with_reducible refine Below.setCell ?_ (by first | omega | (simp <;> omega)) _ | with_reducible refine Below.drew ?_ | with_reducible refine below_drewN ?_ _ | with_reducible refine Below.alloc ?_ (by first | omega | (simp <;> omega)) _ | with_reducible refine Below.trans ?_ (Below.mono (by assumption) (by first | omega | (simp <;> omega))))⟩
      case measure => simp [intOf]; omega
    · go_wp2_with fail
      go_ret
      refine ⟨_, rfl, forms_mk (Nat.le_refl _) (by omega) fun _ => ⟨w.heap.size, 0, rfl, Nat.le_refl _, fun j f hj => ?_⟩, hb⟩
      obtain ⟨v, e0, e1, e2, hat⟩ := HR.out.2 j f (by have := (List.getElem?_eq_some_iff.1 hj).1; omega) hj
      obtain ⟨w0, w1⟩ := forms_wf h hj
      refine ⟨v, ?_, ?_, ?_, hat.mono (by simp only [From]; omega), w0, w1⟩
      · rw [Nat.zero_add, HB.out.cell]; exact e0
      · rw [Nat.zero_add, HB.out.cell]; exact e1
      · rw [Nat.zero_add, HB.out.cell]; exact e2

set_option maxHeartbeats 400000 in
theorem toFormula_any (f : Fm) : ToF f := by
  induction f using Fm.induct with
  | h k q kids ih =>
    intro w S v h h1
    rw [Fm.total_eq] at h1
    have IH := Lib.hid ih
    clear ih
    obtain ⟨A, c, rfl, hn, hc⟩ := forms_slice h
    go_enter Try.func17, Try.ntmps17
    go_wp2_with fail
    refine (toFormulaS_of kids IH.out _ S _ (((h.alloc _).alloc _).alloc _) h1).mono ?_
    rintro e w1 ⟨v', rfl, ha, hb⟩
    obtain ⟨A', c', rfl, hn', hc'⟩ := forms_slice ha
    obtain ⟨hc1, hf1⟩ := bcell hb
    go_wp2_with fail
    refine bodyPost_ret (v := .agg #[.int .i64 k, .int .i64 q, .slice A' kids.length c']) (by simp [results, Try.results17, go_sem, hc1]) rfl ⟨_, rfl, ?_, ?_⟩
    · refine At.mono ((((ha.setCell ?_ _).setCell ?_ _).setCell ?_ _).setCell ?_ _) ?_ <;> simp [From] <;> omega
    · repeat (first | with_reducible exact Below.refl _ _ | with_reducible refine Below.setCell ?_ (by first | omega | (simp <;> omega)) _ | with_reducible refine Below.drew ?_ | with_reducible refine below_drewN ?_ _ | with_reducible refine Below.alloc ?_ (by first | omega | (simp <;> omega)) _ | with_reducible refine Below.trans ?_ (Below.mono (by assumption) (by first | omega | (simp <;> omega))))
theorem toFormulaS_any (fs : List Fm) (w : World) (S : Nat → Prop) (v : Value) (h : At w S (forms fs) v) (h1 : totals fs ≤ 1048576) :
    Calls Try.prog 43 #[v] w fun e w' => ∃ v', e = .returned v' ∧ At w' (From w.heap.size) (forms fs) v' ∧ Below w.heap.size w w' :=
  toFormulaS_of fs (fun x _ => toFormula_any x) w S v h h1

end Go.Proofs.Ytagnfckihdlhpaa

/-
  What eqFormula answers for two formulas that are the same.
-/
namespace Go.Proofs.Ytagnfckihdlhpaa
open Go.RowKit

def EqF (f : Fm) : Prop := ∀ (w : World) (v u : Value), At w Any (forms f.kids) v → At w Any (forms f.kids) u →
    Calls Try.prog 19 #[.agg #[.int .i64 f.kind, .int .i64 f.prop, v], .agg #[.int .i64 f.kind, .int .i64 f.prop, u]] w fun e w' => e = .returned (.bool true) ∧ Below w.heap.size w w'

set_option maxHeartbeats 1000000 in
theorem eqFormulaS_of (fs : List Fm) (ih : ∀ x ∈ fs, EqF x) (w : World) (v u : Value) (h : At w Any (forms fs) v) (g : At w Any (forms fs) u) :
    Calls Try.prog 46 #[v, u] w fun e w' => e = .returned (.bool true) ∧ Below w.heap.size w w' := by
  obtain ⟨A, c, rfl, hn, hc⟩ := forms_slice h
  obtain ⟨A', c', rfl, hn', hc'⟩ := forms_slice g
  have IH := Lib.hid ih
  clear ih
  have hl' : ((fs.length : Int) != (fs.length : Int)) = false := by simp
  go_enter Try.func46, Try.ntmps46
  go_wp2_with fail
  go_loopw [5] (fun i wr => ∃ k : Nat, k ≤ fs.length ∧ i = .int .i64 k ∧ Below w.heap.size w wr) (fun i _ => fs.length - (intOf i).toNat)
  case atStart => exact ⟨0, Nat.zero_le _, rfl, Below.refl _ _⟩
  case round =>
    obtain ⟨k, hk, rfl, hb⟩ := hrel
    by_cases hlt : k < fs.length
    · obtain ⟨b, off, f, x, rfl, _, hlb, c1, c2, c3, hx, HX, _⟩ := forms_get (h.below hb) hlt
      obtain ⟨b', off', f', x', rfl, _, hlb', c1', c2', c3', hx', HX', _⟩ := forms_get (g.below hb) hlt
      have hff : f' = f := by have e1 := HX.out; have e2 := HX'.out; rw [e1] at e2; injection e2 with e2; exact e2.symm
      subst hff
      have hmem := List.mem_of_getElem? HX.out
      have hi1 : (k : Int) < (fs.length : Int) := by omega
      have hz := hb.size
      clear HX HX'
      go_wp2_with fail
      go_region_held3 (fun w' => w'.cell? ⟨b, off + k * 3, none⟩ = some (.int .i64 f'.kind) ∧ w'.cell? ⟨b, off + k * 3 + 1, none⟩ = some (.int .i64 f'.prop) ∧ w'.cell? ⟨b, off + k * 3 + 2, none⟩ = some x ∧
          w'.cell? ⟨b', off' + k * 3, none⟩ = some (.int .i64 f'.kind) ∧ w'.cell? ⟨b', off' + k * 3 + 1, none⟩ = some (.int .i64 f'.prop) ∧ w'.cell? ⟨b', off' + k * 3 + 2, none⟩ = some x') (go_keep)
        (first | (go_at_call 19; refine (IH.out f' hmem _ _ _ ?_ ?_).mono ?_; (exact hx.drew); (exact hx'.drew); rintro e w1 ⟨rfl, hb1⟩; have q1 := (hb1.cell (p := ⟨b, off + k * 3, none⟩) hlb).trans c1; have q2 := (hb1.cell (p := ⟨b, off + k * 3 + 1, none⟩) hlb).trans c2; have q3 := (hb1.cell (p := ⟨b, off + k * 3 + 2, none⟩) hlb).trans c3; have q4 := (hb1.cell (p := ⟨b', off' + k * 3, none⟩) hlb').trans c1'; have q5 := (hb1.cell (p := ⟨b', off' + k * 3 + 1, none⟩) hlb').trans c2'; have q6 := (hb1.cell (p := ⟨b', off' + k * 3 + 2, none⟩) hlb').trans c3'))
      go_wp2_with fail
      go_roundw
      case rel => exact ⟨k + 1, by omega, by go_num, by repeat (first | with_reducible exact Below.refl _ _ | with_reducible refine Below.setCell ?_ (by first | omega | (simp <;> omega)) _ | with_reducible refine Below.drew ?_ | with_reducible refine below_drewN ?_ _ | with_reducible refine Below.alloc ?_ (by first | omega | (simp <;> omega)) _ | with_reducible refine Below.trans ?_ (Below.mono (by assumption) (by first | omega | (simp <;> omega))))⟩
      case measure => simp [intOf]; omega
    · go_wp2_with fail
      go_ret
      exact ⟨rfl, hb⟩

set_option maxHeartbeats 400000 in
theorem eqFormula_any (f : Fm) : EqF f := by
  induction f using Fm.induct with
  | h k q kids ih =>
    intro w v u h g
    have IH := Lib.hid ih
    clear ih
    obtain ⟨A, c, rfl, hn, hc⟩ := forms_slice h
    obtain ⟨A', c', rfl, hn', hc'⟩ := forms_slice g
    have e1 : (k != k) = false := by simp
    have e2 : (q != q) = false := by simp
    go_enter Try.func19, Try.ntmps19
    go_wp2_with fail
    refine (eqFormulaS_of kids IH.out _ _ _ ((h.alloc _).alloc _) ((g.alloc _).alloc _)).mono ?_
    rintro e w1 ⟨rfl, hb1⟩
    go_wp2_with fail
    go_ret
    exact ⟨rfl, by repeat (first | with_reducible exact Below.refl _ _ | with_reducible refine Below.setCell ?_ (by first | omega | (simp <;> omega)) _ | with_reducible refine Below.drew ?_ | with_reducible refine below_drewN ?_ _ | with_reducible refine Below.alloc ?_ (by first | omega | (simp <;> omega)) _ | with_reducible refine Below.trans ?_ (Below.mono (by assumption) (by first | omega | (simp <;> omega))))⟩
theorem eqFormulaS_any (fs : List Fm) (w : World) (v u : Value) (h : At w Any (forms fs) v) (g : At w Any (forms fs) u) :
    Calls Try.prog 46 #[v, u] w fun e w' => e = .returned (.bool true) ∧ Below w.heap.size w w' := eqFormulaS_of fs (fun x _ => eqFormula_any x) w v u h g

end Go.Proofs.Ytagnfckihdlhpaa

/-
  What IsFormula answers, in the reference and in the program.
-/
namespace Go.Proofs.Ytagnfckihdlhpaa
open Go.RowKit

/-- How many formulas a kind takes; below 0: no kind. -/
def arity (k : Int) : Int := if k = 1 ∨ k = 2 then 0 else if k = 3 ∨ k = 6 then 1 else if k = 4 ∨ k = 5 ∨ k = 7 then 2 else -1
/-- What is asked of a node. -/
def okHead (k q : Int) (n : Nat) : Prop := arity k = n ∧ 0 ≤ q ∧ q ≤ 7 ∧ (k = 2 ∨ q = 0)
instance (k q : Int) (n : Nat) : Decidable (okHead k q n) := by unfold okHead; infer_instance

def Fm.ok (f : Fm) : Bool :=
  match f with
  | ⟨k, q, kids⟩ => decide (okHead k q kids.length) && (kids.attach.all fun ⟨x, _⟩ => Fm.ok x)
termination_by f
decreasing_by
  rename_i hx
  have := List.sizeOf_lt_of_mem hx
  simp only [Fm.mk.sizeOf_spec]
  omega
theorem Fm.ok_eq (k q : Int) (kids : List Fm) : Fm.ok ⟨k, q, kids⟩ = (decide (okHead k q kids.length) && kids.all Fm.ok) := by
  rw [Fm.ok]
  congr 1
  conv => rhs; rw [← List.attach_map_subtype_val kids, List.all_map]
  rfl

def Fm.size (f : Fm) : Nat := f.total + 1
def isFormula (f : Fm) : Bool := decide (f.size ≤ 12) && f.ok

def SizeF (f : Fm) : Prop := ∀ (w : World) (v : Value), At w Any (forms f.kids) v → f.total ≤ 1048576 →
    Calls Try.prog 44 #[.agg #[.int .i64 f.kind, .int .i64 f.prop, v]] w fun e w' => e = .returned (.int .i64 (f.size : Nat)) ∧ Below w.heap.size w w'

set_option maxHeartbeats 1000000 in
theorem formulaSize_any (f : Fm) : SizeF f := by
  induction f using Fm.induct with
  | h k q kids ih =>
    intro w v h h1
    have IH := Lib.hid ih
    clear ih
    obtain ⟨A, c, rfl, hn, hc⟩ := forms_slice h
    have ht := Fm.total_eq ⟨k, q, kids⟩
    have HT := Lib.hid ht
    rw [ht] at h1
    clear ht
    unfold totals at h1
    go_enter Try.func44, Try.ntmps44
    go_wp2_with fail
    go_loopw [3, 9] (fun l i wr => ∃ j : Nat, j ≤ kids.length ∧ i = .int .i64 j ∧ l = .int .i64 ((1 + j + sumTo kids j : Nat) : Int) ∧ Below w.heap.size w wr) (fun _ i _ => kids.length - (intOf i).toNat)
    case atStart => exact ⟨0, Nat.zero_le _, rfl, by simp [sumTo], by repeat (first | with_reducible exact Below.refl _ _ | with_reducible refine Below.setCell ?_ (by first | omega | (simp <;> omega)) _ | with_reducible refine Below.drew ?_ | with_reducible refine below_drewN ?_ _ | with_reducible refine Below.alloc ?_ (by first | omega | (simp <;> omega)) _ | with_reducible refine Below.trans ?_ (Below.mono (by assumption) (by first | omega | (simp <;> omega))))⟩
    case round =>
      obtain ⟨j, hj, rfl, rfl, hb⟩ := hrel
      have hle0 := sumTo_le kids j
      by_cases hlt : j < kids.length
      · obtain ⟨b, off, f, u, rfl, _, hlb, hc1, hc2, hc3, hu, HX, _⟩ := forms_get (h.below hb) hlt
        obtain ⟨Au, cu, rfl, hnu, hcu⟩ := forms_slice hu
        have hmem := List.mem_of_getElem? HX.out
        have HS := Lib.hid (sumTo_succ HX.out)
        have hle := sumTo_le kids (j + 1)
        have htl : sumTo kids j + f.total ≤ (kids.map Fm.total).sum := by have := HS.out; omega
        have hfs : f.size ≤ 1048577 := by unfold Fm.size; omega
        go_wp2_with fail
        refine (IH.out f hmem _ _ (hu.alloc _) (by omega)).mono ?_
        rintro e w1 ⟨rfl, hb1⟩
        have hfs2 : f.size = f.total + 1 := rfl
        have HF := Lib.hid hfs2
        clear hfs2
        go_wp2_with fail
        go_roundw
        case rel => exact ⟨j + 1, by omega, by go_num, by have := HF.out; have := HS.out; go_num, by have z := hb.size; repeat (first | with_reducible exact Below.refl _ _ | with_reducible refine Below.setCell ?_ (by first | omega | (simp <;> omega)) _ | with_reducible refine Below.drew ?_ | with_reducible refine below_drewN ?_ _ | with_reducible refine Below.alloc ?_ (by first | omega | (simp <;> omega)) _ | with_reducible refine Below.trans ?_ (Below.mono (by assumption) (by first | omega | (simp <;> omega))))⟩
        case measure => simp [intOf]; omega
      · have hj' : j = kids.length := by omega
        have HR : Hid (((1 + j + sumTo kids j : Nat) : Int) = ((Fm.size ⟨k, q, kids⟩ : Nat) : Int)) := by
          show ((1 + j + sumTo kids j : Nat) : Int) = _
          have := HT.out
          rw [hj', sumTo_all]
          unfold Fm.size
          unfold totals at this
          omega
        clear hj'
        go_wp2_with fail
        go_ret
        exact ⟨ret_int HR.out, hb⟩

/-- What makes a node wrong, test by test. -/
theorem bad_head {k q : Int} {n : Nat} (h : ¬ okHead k q n) :
    (k < 1 ∨ 7 < k) ∨ (1 ≤ k ∧ k ≤ 7 ∧ ((n : Int) ≠ arity k ∨ ((n : Int) = arity k ∧ (q < 0 ∨ (0 ≤ q ∧ (7 < q ∨ (q ≤ 7 ∧ k ≠ 2 ∧ q ≠ 0))))))) := by
  unfold okHead at h
  omega

def OkF (f : Fm) : Prop := ∀ (w : World) (v : Value), At w Any (forms f.kids) v →
    Calls Try.prog 45 #[.agg #[.int .i64 f.kind, .int .i64 f.prop, v]] w fun e w' => e = .returned (.bool f.ok) ∧ Below w.heap.size w w'

theorem kinds {k : Int} (h1 : 1 ≤ k) (h2 : k ≤ 7) : k = 1 ∨ k = 2 ∨ k = 3 ∨ k = 4 ∨ k = 5 ∨ k = 6 ∨ k = 7 := by omega

end Go.Proofs.Ytagnfckihdlhpaa

/-
  When a formula holds at a place of a lasso: plain functions, and that two ways to find 'until' agree.
-/
namespace Go.Proofs.Ytagnfckihdlhpaa

/-- The place behind a place. -/
def nxt (n back i : Nat) : Nat := if i + 1 < n then i + 1 else back

section
variable (n back : Nat) (a b : Nat → Bool)

/-- Until, looked for within k places. -/
def untilR : Nat → Nat → Bool
  | 0, i => b i
  | k + 1, i => b i || (a i && untilR k (nxt n back i))

/-- k places ahead b holds, and a at all places before. -/
def wit : Nat → Nat → Prop
  | 0, i => b i = true
  | k + 1, i => a i = true ∧ wit k (nxt n back i)

/-- One turn from the last place to the first; d: how far from the last. c: what stood at the place behind the last. -/
def swF (c : Bool) : Nat → Bool
  | 0 => b (n - 1) || (a (n - 1) && c)
  | d + 1 => b (n - 1 - (d + 1)) || (a (n - 1 - (d + 1)) && swF c d)

theorem untilR_iff (k : Nat) : ∀ i, untilR n back a b k i = true ↔ ∃ j, j ≤ k ∧ wit n back a b j i := by
  induction k with
  | zero =>
    intro i
    constructor
    · intro h; exact ⟨0, Nat.le_refl _, h⟩
    · rintro ⟨j, hj, h⟩
      obtain rfl : j = 0 := by omega
      exact h
  | succ k ih =>
    intro i
    simp only [untilR, Bool.or_eq_true, Bool.and_eq_true, ih]
    constructor
    · rintro (h | ⟨h, j, hj, hw⟩)
      · exact ⟨0, by omega, h⟩
      · exact ⟨j + 1, by omega, h, hw⟩
    · rintro ⟨j, hj, hw⟩
      cases j with
      | zero => exact .inl hw
      | succ j => exact .inr ⟨hw.1, j, by omega, hw.2⟩

theorem wit_straight (k : Nat) : ∀ i, i + k < n → (wit n back a b k i ↔ (b (i + k) = true ∧ ∀ m, i ≤ m → m < i + k → a m = true)) := by
  induction k with
  | zero =>
    intro i hi
    simp only [wit, Nat.add_zero]
    exact ⟨fun h => ⟨h, fun m h1 h2 => by omega⟩, fun h => h.1⟩
  | succ k ih =>
    intro i hi
    have e : nxt n back i = i + 1 := by unfold nxt; rw [if_pos (by omega)]
    simp only [wit, e, ih (i + 1) (by omega)]
    rw [show i + 1 + k = i + (k + 1) by omega]
    constructor
    · rintro ⟨h1, h2, h3⟩
      refine ⟨h2, fun m hm hm2 => ?_⟩
      by_cases e : m = i
      · subst e; exact h1
      · exact h3 m (by omega) hm2
    · rintro ⟨h1, h2⟩
      exact ⟨h2 i (by omega) (by omega), h1, fun m hm hm2 => h2 m (by omega) hm2⟩

theorem wit_wrap (r : Nat) (e : Nat) : ∀ i, i < n → n - i = e → (wit n back a b (n - i + r) i ↔ ((∀ m, i ≤ m → m < n → a m = true) ∧ wit n back a b r back)) := by
  induction e with
  | zero => intro i hi he; omega
  | succ e ih =>
    intro i hi he
    have e1 : n - i + r = (e + r) + 1 := by omega
    rw [e1]
    simp only [wit]
    by_cases hl : i + 1 < n
    · have e2 : nxt n back i = i + 1 := by unfold nxt; rw [if_pos hl]
      have e3 : e + r = n - (i + 1) + r := by omega
      rw [e2, e3, ih (i + 1) hl (by omega)]
      constructor
      · rintro ⟨h1, h2, h3⟩
        refine ⟨fun m hm hm2 => ?_, h3⟩
        by_cases e : m = i
        · subst e; exact h1
        · exact h2 m (by omega) hm2
      · rintro ⟨h1, h2⟩
        exact ⟨h1 i (by omega) hi, fun m hm hm2 => h1 m (by omega) hm2, h2⟩
    · have e2 : nxt n back i = back := by unfold nxt; rw [if_neg hl]
      have e3 : e = 0 := by omega
      subst e3
      rw [e2, Nat.zero_add]
      constructor
      · rintro ⟨h1, h2⟩
        refine ⟨fun m hm hm2 => ?_, h2⟩
        obtain rfl : m = i := by omega
        exact h1
      · rintro ⟨h1, h2⟩
        exact ⟨h1 i (by omega) hi, h2⟩

theorem swF_iff (c : Bool) (d : Nat) (hd : d < n) : swF n a b c d = true ↔
    ((∃ p, n - 1 - d ≤ p ∧ p < n ∧ b p = true ∧ ∀ m, n - 1 - d ≤ m → m < p → a m = true) ∨ (c = true ∧ ∀ m, n - 1 - d ≤ m → m < n → a m = true)) := by
  induction d with
  | zero =>
    simp only [swF, Bool.or_eq_true, Bool.and_eq_true, Nat.sub_zero]
    constructor
    · rintro (h | ⟨h1, h2⟩)
      · exact .inl ⟨n - 1, by omega, by omega, h, fun m h1 h2 => by omega⟩
      · refine .inr ⟨h2, fun m hm hm2 => ?_⟩
        obtain rfl : m = n - 1 := by omega
        exact h1
    · rintro (⟨p, hp, hp2, h1, _⟩ | ⟨h1, h2⟩)
      · obtain rfl : p = n - 1 := by omega
        exact .inl h1
      · exact .inr ⟨h2 (n - 1) (by omega) (by omega), h1⟩
  | succ d ih =>
    simp only [swF, Bool.or_eq_true, Bool.and_eq_true, ih (by omega)]
    have e : n - 1 - d = n - 1 - (d + 1) + 1 := by omega
    rw [e]
    generalize n - 1 - (d + 1) = i at *
    constructor
    · rintro (h | ⟨h1, ⟨p, hp, hp2, h3, h4⟩ | ⟨h3, h4⟩⟩)
      · exact .inl ⟨i, by omega, by omega, h, fun m h1 h2 => by omega⟩
      · refine .inl ⟨p, by omega, hp2, h3, fun m hm hm2 => ?_⟩
        by_cases em : m = i
        · subst em; exact h1
        · exact h4 m (by omega) hm2
      · refine .inr ⟨h3, fun m hm hm2 => ?_⟩
        by_cases em : m = i
        · subst em; exact h1
        · exact h4 m (by omega) hm2
    · rintro (⟨p, hp, hp2, h3, h4⟩ | ⟨h3, h4⟩)
      · by_cases ep : p = i
        · subst ep; exact .inl h3
        · exact .inr ⟨h4 i (by omega) (by omega), .inl ⟨p, by omega, hp2, h3, fun m hm hm2 => h4 m (by omega) hm2⟩⟩
      · exact .inr ⟨h4 i (by omega) (by omega), .inr ⟨h3, fun m hm hm2 => h4 m (by omega) hm2⟩⟩

/-- A witness at the place where the loop begins lies within one turn. -/
theorem wit_short (hb : back < n) (r : Nat) : wit n back a b r back → ∃ r', r' < n - back ∧ wit n back a b r' back := by
  induction r using Nat.strongRecOn with
  | ind r ih =>
    intro h
    by_cases hr : r < n - back
    · exact ⟨r, hr, h⟩
    · have e : r = n - back + (r - (n - back)) := by omega
      rw [e, wit_wrap n back a b _ _ back hb rfl] at h
      exact ih _ (by omega) h.2

theorem until_eq (hb : back < n) (i : Nat) (hi : i < n) : swF n a b (swF n a b false (n - 1 - back)) (n - 1 - i) = untilR n back a b n i := by
  rw [Bool.eq_iff_iff, untilR_iff, swF_iff n a b _ _ (by omega), swF_iff n a b _ _ (by omega)]
  rw [show n - 1 - (n - 1 - i) = i by omega, show n - 1 - (n - 1 - back) = back by omega]
  simp only [Bool.false_eq_true, false_and, or_false]
  constructor
  · rintro (⟨p, hp, hp2, h1, h2⟩ | ⟨⟨p, hp, hp2, h1, h2⟩, h3⟩)
    · refine ⟨p - i, by omega, (wit_straight n back a b (p - i) i (by omega)).2 ?_⟩
      rw [show i + (p - i) = p by omega]
      exact ⟨h1, fun m hm hm2 => h2 m hm hm2⟩
    · by_cases hpi : i ≤ p
      · refine ⟨p - i, by omega, (wit_straight n back a b (p - i) i (by omega)).2 ?_⟩
        rw [show i + (p - i) = p by omega]
        exact ⟨h1, fun m hm hm2 => h3 m hm (by omega)⟩
      · refine ⟨n - i + (p - back), by omega, (wit_wrap n back a b (p - back) _ i hi rfl).2 ⟨h3, ?_⟩⟩
        refine (wit_straight n back a b (p - back) back (by omega)).2 ?_
        rw [show back + (p - back) = p by omega]
        exact ⟨h1, h2⟩
  · rintro ⟨j, hj, hw⟩
    by_cases hji : i + j < n
    · have h := (wit_straight n back a b j i hji).1 hw
      exact .inl ⟨i + j, by omega, hji, h.1, h.2⟩
    · have e : j = n - i + (j - (n - i)) := by omega
      rw [e, wit_wrap n back a b _ _ i hi rfl] at hw
      obtain ⟨r, hr, hw2⟩ := wit_short n back a b hb _ hw.2
      have h := (wit_straight n back a b r back (by omega)).1 hw2
      exact .inr ⟨⟨back + r, by omega, by omega, h.1, h.2⟩, hw.1⟩
end

/-- A label has the bit of a proposition. -/
def hasBit (lab q : Int) : Bool := lab.toNat.testBit q.toNat

/-- The answer of a node at a place, out of the answers below. -/
def evalK (n back : Nat) (lab : Nat → Int) (k q : Int) (ks : List (Nat → Bool)) (i : Nat) : Bool :=
  if k = 1 then true
  else if k = 2 then hasBit (lab i) q
  else if k = 3 then !(ks.getD 0 fun _ => false) i
  else if k = 4 then (ks.getD 0 fun _ => false) i && (ks.getD 1 fun _ => false) i
  else if k = 5 then (ks.getD 0 fun _ => false) i || (ks.getD 1 fun _ => false) i
  else if k = 6 then (ks.getD 0 fun _ => false) (nxt n back i)
  else untilR n back (ks.getD 0 fun _ => false) (ks.getD 1 fun _ => false) n i

/-- Whether a formula holds at a place. -/
def Fm.hold (n back : Nat) (lab : Nat → Int) (f : Fm) : Nat → Bool :=
  match f with
  | ⟨k, q, kids⟩ => evalK n back lab k q (kids.attach.map fun ⟨x, _⟩ => Fm.hold n back lab x)
termination_by f
decreasing_by
  rename_i hx
  have := List.sizeOf_lt_of_mem hx
  simp only [Fm.mk.sizeOf_spec]
  omega
theorem Fm.hold_eq (n back : Nat) (lab : Nat → Int) (k q : Int) (kids : List Fm) : Fm.hold n back lab ⟨k, q, kids⟩ = evalK n back lab k q (kids.map (Fm.hold n back lab)) := by
  rw [Fm.hold]
  congr 1
  conv => rhs; rw [← List.attach_map_subtype_val kids, List.map_map]
  rfl

end Go.Proofs.Ytagnfckihdlhpaa

/-
  What szTerm, szTermS and szIntSS compute.
-/
namespace Go.Proofs.Ytagnfckihdlhpaa
open Go.RowKit

theorem took_took {left a b : Int} (h : 0 ≤ took left a) : took (took left a) b = took left (a + b) := by
  have h1 : ¬ left - a < 0 := fun hn => by unfold took at h; rw [if_pos hn] at h; omega
  have e : took left a = left - a := by unfold took; rw [if_neg h1]
  rw [e]
  unfold took
  split
  · rw [if_pos (by omega)]
  · rw [if_neg (by omega)]; omega
theorem took_more {left a b : Int} (hb : 0 ≤ b) (h : took left a < 0) : took left (a + b) = -1 := by
  unfold took at h ⊢
  split at h
  · rw [if_pos (by omega)]
  · omega

def SzT (t : Tm) : Prop := ∀ (left : Int) (w : World) (S : Nat → Prop) (v : Value), t.fits → At w S (terms t.args) v → -1 ≤ left → left ≤ 1048576 →
    Calls Try.prog 71 #[.agg #[.int .i64 t.op, .string t.name, .int .i64 t.sort, v], .int .i64 left] w fun e w' => e = .returned (.int .i64 (took left t.total)) ∧ Below w.heap.size w w'

set_option maxHeartbeats 1000000 in
theorem szTermS_of (ts : List Tm) (ih : ∀ x ∈ ts, SzT x) (left : Int) (w : World) (S : Nat → Prop) (v : Value) (h : At w S (terms ts) v) (h0 : -1 ≤ left) (h1 : left ≤ 1048576) :
    Calls Try.prog 47 #[v, .int .i64 left] w fun e w' => e = .returned (.int .i64 (took left (tmTotals ts))) ∧ Below w.heap.size w w' := by
  obtain ⟨A, c, rfl, hn, hc⟩ := terms_slice h
  have IH := Lib.hid ih
  clear ih
  by_cases hneg : left - ts.length < 0
  · have HT : Hid (took left (tmTotals ts) = -1) := by
      show took left (tmTotals ts) = -1
      unfold took tmTotals
      rw [if_pos (by omega)]
    go_enter Try.func47, Try.ntmps47
    go_wp2_with fail
    go_ret
    exact ⟨ret_int HT.out.symm, Below.refl _ _⟩
  · go_enter Try.func47, Try.ntmps47
    go_wp2_with fail
    go_loopw [1, 5] (fun l i wr => ∃ k : Nat, k ≤ ts.length ∧ i = .int .i64 k ∧ 0 ≤ left - ts.length - sumOf Tm.total ts k ∧ l = .int .i64 (left - ts.length - sumOf Tm.total ts k) ∧ Below w.heap.size w wr) (fun _ i _ => ts.length - (intOf i).toNat)
    case atStart => exact ⟨0, Nat.zero_le _, rfl, by rw [sumOf_zero]; omega, by rw [sumOf_zero]; simp, Below.refl _ _⟩
    case round =>
      obtain ⟨k, hk, rfl, hge, rfl, hb⟩ := hrel
      by_cases hlt : k < ts.length
      · obtain ⟨b, off, t, u, rfl, _, hlb, hc1, hc2, hc3, hc4, hu, HX, hfit⟩ := terms_get (h.below hb) hlt
        have hmem := List.mem_of_getElem? HX.out
        have HS := Lib.hid (sumOf_succ (f := Tm.total) HX.out)
        have hle := sumOf_le Tm.total ts (k + 1)
        have hz := hb.size
        have HF := Lib.hid hfit
        clear hfit
        by_cases hng : left - ts.length - sumOf Tm.total ts k - t.total < 0
        · have hng' : took (left - ts.length - sumOf Tm.total ts k) t.total < 0 := by unfold took; rw [if_pos hng]; omega
          have HT : Hid (took left (tmTotals ts) = -1) := by
            show took left (tmTotals ts) = -1
            have := HS.out
            unfold took tmTotals
            rw [if_pos (by omega)]
          go_wp2_with fail
          refine (IH.out t hmem _ _ S _ HF.out hu (by omega) (by omega)).mono ?_
          rintro e w1 ⟨rfl, hb1⟩
          go_wp2_with fail
          go_ret
          refine ⟨ret_int HT.out.symm, ?_⟩
          repeat (first | with_reducible exact Below.refl _ _ | with_reducible refine Below.setCell ?_ (by first | omega | (simp <;> omega)) _ | with_reducible refine Below.drew ?_ | with_reducible refine below_drewN ?_ _ | with_reducible refine Below.alloc ?_ (by first | omega | (simp <;> omega)) _ | with_reducible refine Below.trans ?_ (Below.mono (by assumption) (by first | omega | (simp <;> omega))))
        · have hng' : 0 ≤ took (left - ts.length - sumOf Tm.total ts k) t.total := by unfold took; rw [if_neg hng]; omega
          have HT : Hid (took (left - ts.length - sumOf Tm.total ts k) t.total = left - ts.length - sumOf Tm.total ts (k + 1)) := by
            show took (left - ts.length - sumOf Tm.total ts k) t.total = _
            have := HS.out
            unfold took
            rw [if_neg hng]
            omega
          go_wp2_with fail
          refine (IH.out t hmem _ _ S _ HF.out hu (by omega) (by omega)).mono ?_
          rintro e w1 ⟨rfl, hb1⟩
          go_wp2_with fail
          go_roundw
          case rel => exact ⟨k + 1, by omega, by go_num, by have := HT.out; omega, by rw [HT.out], by repeat (first | with_reducible exact Below.refl _ _ | with_reducible refine Below.setCell ?_ (by first | omega | (simp <;> omega)) _ | with_reducible refine Below.drew ?_ | with_reducible refine below_drewN ?_ _ | with_reducible refine Below.alloc ?_ (by first | omega | (simp <;> omega)) _ | with_reducible refine Below.trans ?_ (Below.mono (by assumption) (by first | omega | (simp <;> omega))))⟩
          case measure => simp [intOf]; omega
      · have hk' : k = ts.length := by omega
        have HT : Hid (took left (tmTotals ts) = left - ts.length - sumOf Tm.total ts k) := by
          show took left (tmTotals ts) = left - ts.length - sumOf Tm.total ts k
          rw [hk'] at hge ⊢
          rw [sumOf_all] at hge ⊢
          unfold took tmTotals
          rw [if_neg (by omega)]
          omega
        clear hk'
        go_wp2_with fail
        go_ret
        exact ⟨ret_int HT.out.symm, hb⟩

set_option maxHeartbeats 400000 in
theorem szTerm_any (t : Tm) : SzT t := by
  induction t using Tm.induct with
  | h o n s args ih =>
    intro left w S v hfit h h0 h1
    have IH := Lib.hid ih
    clear ih
    obtain ⟨A, c, rfl, hn, hc⟩ := terms_slice h
    have hns : n.size ≤ 9223372036854775807 := hfit.2.2.1
    clear hfit
    have HT : Hid (Tm.total ⟨o, n, s, args⟩ = n.size + tmTotals args) := Tm.total_eq _
    by_cases hneg : left - n.size < 0
    · have HR : Hid (took left (Tm.total ⟨o, n, s, args⟩) = -1) := by
        show took left (Tm.total ⟨o, n, s, args⟩) = -1
        have := HT.out
        unfold took
        rw [if_pos (by omega)]
      go_enter Try.func71, Try.ntmps71
      go_wp2_with fail
      go_ret
      exact ⟨ret_int HR.out.symm, by repeat (first | with_reducible exact Below.refl _ _ | with_reducible refine Below.setCell ?_ (by first | omega | (simp <;> omega)) _ | with_reducible refine Below.drew ?_ | with_reducible refine below_drewN ?_ _ | with_reducible refine Below.alloc ?_ (by first | omega | (simp <;> omega)) _ | with_reducible refine Below.trans ?_ (Below.mono (by assumption) (by first | omega | (simp <;> omega))))⟩
    · have HR : Hid (took left (Tm.total ⟨o, n, s, args⟩) = took (left - n.size) (tmTotals args)) := by
        show took left (Tm.total ⟨o, n, s, args⟩) = took (left - n.size) (tmTotals args)
        have := HT.out
        unfold took
        split
        · rw [if_pos (by omega)]
        · rw [if_neg (by omega)]; omega
      go_enter Try.func71, Try.ntmps71
      go_wp2_with fail
      refine (szTermS_of args IH.out _ _ S _ (h.alloc _) (by omega) (by omega)).mono ?_
      rintro e w1 ⟨rfl, hb1⟩
      go_wp2_with fail
      all_goals go_ret
      · exact ⟨ret_int (by rw [HR.out]; exact (took_neg ‹_›).symm), by repeat (first | with_reducible exact Below.refl _ _ | with_reducible refine Below.setCell ?_ (by first | omega | (simp <;> omega)) _ | with_reducible refine Below.drew ?_ | with_reducible refine below_drewN ?_ _ | with_reducible refine Below.alloc ?_ (by first | omega | (simp <;> omega)) _ | with_reducible refine Below.trans ?_ (Below.mono (by assumption) (by first | omega | (simp <;> omega))))⟩
      · exact ⟨ret_int (by rw [HR.out]), by repeat (first | with_reducible exact Below.refl _ _ | with_reducible refine Below.setCell ?_ (by first | omega | (simp <;> omega)) _ | with_reducible refine Below.drew ?_ | with_reducible refine below_drewN ?_ _ | with_reducible refine Below.alloc ?_ (by first | omega | (simp <;> omega)) _ | with_reducible refine Below.trans ?_ (Below.mono (by assumption) (by first | omega | (simp <;> omega))))⟩
theorem szTermS_any (ts : List Tm) (left : Int) (w : World) (S : Nat → Prop) (v : Value) (h : At w S (terms ts) v) (h0 : -1 ≤ left) (h1 : left ≤ 1048576) :
    Calls Try.prog 47 #[v, .int .i64 left] w fun e w' => e = .returned (.int .i64 (took left (tmTotals ts))) ∧ Below w.heap.size w w' :=
  szTermS_of ts (fun x _ => szTerm_any x) left w S v h h0 h1

set_option maxHeartbeats 1000000 in
theorem szIntSS_any (xss : List (List Int)) (left : Int) (w : World) (S : Nat → Prop) (v : Value) (h : At w S (rows xss) v) (h0 : -1 ≤ left) (h1 : left ≤ 1048576) :
    Calls Try.prog 48 #[v, .int .i64 left] w fun e w' => e = .returned (.int .i64 (took left (rowTotals xss))) ∧ Below w.heap.size w w' := by
  obtain ⟨A, c, rfl, hn, hc⟩ := rows_slice h
  by_cases hneg : left - xss.length < 0
  · have HT : Hid (took left (rowTotals xss) = -1) := by
      show took left (rowTotals xss) = -1
      unfold took rowTotals
      rw [if_pos (by omega)]
    go_enter Try.func48, Try.ntmps48
    go_wp2_with fail
    go_ret
    exact ⟨ret_int HT.out.symm, Below.refl _ _⟩
  · go_enter Try.func48, Try.ntmps48
    go_wp2_with fail
    go_loopw [1, 5] (fun l i wr => ∃ k : Nat, k ≤ xss.length ∧ i = .int .i64 k ∧ 0 ≤ left - xss.length - sumOf List.length xss k ∧ l = .int .i64 (left - xss.length - sumOf List.length xss k) ∧ Below w.heap.size w wr) (fun _ i _ => xss.length - (intOf i).toNat)
    case atStart => exact ⟨0, Nat.zero_le _, rfl, by rw [sumOf_zero]; omega, by rw [sumOf_zero]; simp, Below.refl _ _⟩
    case round =>
      obtain ⟨k, hk, rfl, hge, rfl, hb⟩ := hrel
      by_cases hlt : k < xss.length
      · obtain ⟨b, off, xs, u, rfl, _, hlb, hc1, hu, HX⟩ := rows_get (h.below hb) hlt
        obtain ⟨Au, cu, rfl, hnu, hcu⟩ := ints_slice hu
        have HS := Lib.hid (sumOf_succ (f := List.length) HX.out)
        have hle := sumOf_le List.length xss (k + 1)
        have hz := hb.size
        by_cases hng : left - xss.length - sumOf List.length xss k - xs.length < 0
        · have hng' : took (left - xss.length - sumOf List.length xss k) xs.length < 0 := by unfold took; rw [if_pos hng]; omega
          have HT : Hid (took left (rowTotals xss) = -1) := by
            show took left (rowTotals xss) = -1
            have := HS.out
            unfold took rowTotals
            rw [if_pos (by omega)]
          go_wp2_with fail
          refine (szIntS_any xs _ _ S _ hu (by omega) (by omega)).mono ?_
          rintro e w1 ⟨rfl, rfl⟩
          go_wp2_with fail
          go_ret
          refine ⟨ret_int HT.out.symm, hb⟩
        · have hng' : 0 ≤ took (left - xss.length - sumOf List.length xss k) xs.length := by unfold took; rw [if_neg hng]; omega
          have HT : Hid (took (left - xss.length - sumOf List.length xss k) xs.length = left - xss.length - sumOf List.length xss (k + 1)) := by
            show took (left - xss.length - sumOf List.length xss k) xs.length = _
            have := HS.out
            unfold took
            rw [if_neg hng]
            omega
          go_wp2_with fail
          refine (szIntS_any xs _ _ S _ hu (by omega) (by omega)).mono ?_
          rintro e w1 ⟨rfl, rfl⟩
          go_wp2_with fail
          go_roundw
          case rel => exact ⟨k + 1, by omega, by go_num, by have := HT.out; omega, by rw [HT.out], hb⟩
          case measure => simp [intOf]; omega
      · have hk' : k = xss.length := by omega
        have HT : Hid (took left (rowTotals xss) = left - xss.length - sumOf List.length xss k) := by
          show took left (rowTotals xss) = left - xss.length - sumOf List.length xss k
          rw [hk'] at hge ⊢
          rw [sumOf_all] at hge ⊢
          unfold took rowTotals
          rw [if_neg (by omega)]
          omega
        clear hk'
        go_wp2_with fail
        go_ret
        exact ⟨ret_int HT.out.symm, hb⟩

end Go.Proofs.Ytagnfckihdlhpaa

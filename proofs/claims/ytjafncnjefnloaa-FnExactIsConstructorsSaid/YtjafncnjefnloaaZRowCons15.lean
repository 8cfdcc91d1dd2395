/-
  Texts that the claim rests on, merged: PL, Wrap1.
-/
import Derived.Test.YtjafncnjefnloaaZRowCons12
import Derived.Test.YtjafncnjefnloaaZRowCons13

/-
  Functions of the program, by den. Printed by wip/den/dp.py.
-/
namespace Go.Proofs.Ytjafncnjefnloaa.Den
open Go.RowKit
set_option maxRecDepth 100000
set_option linter.unusedVariables false
namespace l_eqIntS
structure Gs where
  none_ : Unit
noncomputable def ents (_ : Gs) : List Ent := []
noncomputable def b4 {R : Type} (G : Gs) (n : Nat) (a : List Int) (b : List Int) (i : Int) (nx : List Int → List Int → Int → Option R) (k0 : Bool → Option R) (k1 : Option R) : Option R :=
  bif decide (i < (List.length a : Int)) then
    (
    Option.bind (ix a i) fun e2 =>
    Option.bind (ix b i) fun e4 =>
    bif !decide (e2 = e4) then
      (k0 false)
    else
      nx a b (wr (i + 1))
    )
  else
    k1
noncomputable def l4 {R : Type} (G : Gs) (n m : Nat) (a : List Int) (b : List Int) (i : Int) (k0 : Bool → Option R) (k1 : Option R) : Option R := iter (fun (v : List Int × List Int × Int) nx => b4 G n v.1 v.2.1 v.2.2 (fun y0 y1 y2 => nx (y0, y1, y2)) k0 k1) m (a, b, i)
noncomputable def main {R : Type} (G : Gs) (n : Nat) (a : List Int) (b : List Int) (K : Bool → Option R) : Option R :=
  bif !decide ((List.length a : Int) = (List.length b : Int)) then
    (K false)
  else
    l4 G n n a b 0
      (fun t4 => K t4)
      ( K true)
noncomputable def dl4 (G : Gs) (n m : Nat) (R : Type) (st : St) (K : Kt R) : Option R := match st with
  | ⟨[(0, .one (.l .i a)), (1, .one (.l .i b)), (5, .one (.i i))], []⟩ => l4 G n m a b i (fun t4 => K .ret ⟨[(4, .one (.b t4))], []⟩) (K (.exit 0) ⟨[], []⟩)
  | _ => none
noncomputable def pc (G : Gs) (n : Nat) : Pcs := ⟨fun R id st K => bif Nat.beq id 4 then dl4 G n n R st K else none, fun _ _ _ _ => none, fun _ _ _ _ => none⟩
noncomputable def an : Ann := ⟨26, 0, [(4, [0, 1, 5])], [], [4], [(6, ⟨[([0, 1, 2, 3, 4, 5, 6, 7, 8], [], [])], [], [], [], []⟩)]⟩
theorem s4 (G : Gs) (n m : Nat) (R : Type) (a : List Int) (b : List Int) (i : Int) (K : Kt R) : den tb (orcOf (ents G)) (pc G n) an (nthC [1, 1, 0, 1, 0, 0] (bodyOf Try.f10)) ⟨[(0, .one (.l .i a)), (1, .one (.l .i b)), (5, .one (.i i))], []⟩ (roundK an.refs [0, 1, 5] ⟨[], [4], [(0, [])]⟩ (fun st => dl4 G n m R st K) K) = dl4 G n (m + 1) R ⟨[(0, .one (.l .i a)), (1, .one (.l .i b)), (5, .one (.i i))], []⟩ K := by kernel_rfl
theorem pl4 {G : Gs} (hG : AllE Try.prog (ents G)) (n : Nat) : ∀ m, PieceOK Try.prog an (.loop (nthC [1, 1, 0, 1, 0, 0] (bodyOf Try.f10))) (dl4 G n m) := by
  refine loop_piece mixed tb_ok (orc_ok hG) (pc := pc G n) (lv := [0, 1, 5]) (o := ⟨[], [4], [(0, [])]⟩) (by
    have h : pieces an (nthC [1, 1, 0, 1, 0, 0] (bodyOf Try.f10)) = [] := by kernel_rfl
    rw [h]
    exact trivial) (fun R st K => ?_) (fun m R st K r h => ?_)
  · unfold dl4; split <;> rfl
  · have e := h
    unfold dl4 at e
    split at e
    · rename_i x0 x1 x2; exact (s4 G n m R x0 x1 x2 K).trans h
    · cases e
theorem allp {G : Gs} (hG : AllE Try.prog (ents G)) (n : Nat) : AllP Try.prog an (pc G n) (pieces an (bodyOf Try.f10)) := by
    have h : pieces an (bodyOf Try.f10) = [(1, 4, .loop (nthC [1, 1, 0, 1, 0, 0] (bodyOf Try.f10)))] := by kernel_rfl
    rw [h]
    exact ⟨pl4 hG n n, trivial⟩
/-- What the function computes. -/
noncomputable def Does (G : Gs) (a : List Int) (b : List Int) (r : Bool) : Prop := ∃ n, main (R := AT × List Ob) G n a b (fun r0 => some (.one (.b r0), [])) = some (.one (.b r), [])
theorem eq (G : Gs) (n : Nat) (a : List Int) (b : List Int) : den tb (orcOf (ents G)) (pc G n) an (bodyOf Try.f10) ⟨argsD 0 [.one (.l .i a), .one (.l .i b)], []⟩ (atEnd (finF tb an [.tmp 4])) = main (R := AT × List Ob) G n a b (fun r0 => some (.one (.b r0), [])) := by kernel_rfl
theorem ok {G : Gs} (hG : AllE Try.prog (ents G)) {g : List Int → List Int → Option (Bool)} (hg : ∀ a b r, g a b = some r → Does G a b r) : EntOK Try.prog (ent g) := fun R xs H K r hc => by
  simp only [ent] at hc
  split at hc
  · rename_i a a2
    obtain ⟨r, q1, q2⟩ := bind_some hc
    obtain ⟨n, q3⟩ := hg a a2 _ q1
    exact ⟨_, _, q2, fn_of_den (pc := pc G n) (an := an) (xs := [.one (.l .i a), .one (.l .i a2)]) (H := []) (fin := finF tb an [.tmp 4]) mixed tb_ok (orc_ok hG) (fn := Try.f10) (c := bodyOf Try.f10) Try.func10 (by kernel_rfl) (by kernel_rfl) (by kernel_rfl) (by kernel_rfl) (by kernel_rfl) (rs := [.tmp 4]) (by kernel_rfl) (.inl rfl) (allp hG n) ((eq G n a a2).trans q3)⟩
  · cases hc
end l_eqIntS
namespace l_eqStringS
structure Gs where
  none_ : Unit
noncomputable def ents (_ : Gs) : List Ent := []
noncomputable def b4 {R : Type} (G : Gs) (n : Nat) (a : List ByteArray) (b : List ByteArray) (i : Int) (nx : List ByteArray → List ByteArray → Int → Option R) (k0 : Bool → Option R) (k1 : Option R) : Option R :=
  bif decide (i < (List.length a : Int)) then
    (
    Option.bind (ix a i) fun e2 =>
    Option.bind (ix b i) fun e4 =>
    bif !sEq e2 e4 then
      (k0 false)
    else
      nx a b (wr (i + 1))
    )
  else
    k1
noncomputable def l4 {R : Type} (G : Gs) (n m : Nat) (a : List ByteArray) (b : List ByteArray) (i : Int) (k0 : Bool → Option R) (k1 : Option R) : Option R := iter (fun (v : List ByteArray × List ByteArray × Int) nx => b4 G n v.1 v.2.1 v.2.2 (fun y0 y1 y2 => nx (y0, y1, y2)) k0 k1) m (a, b, i)
noncomputable def main {R : Type} (G : Gs) (n : Nat) (a : List ByteArray) (b : List ByteArray) (K : Bool → Option R) : Option R :=
  bif !decide ((List.length a : Int) = (List.length b : Int)) then
    (K false)
  else
    l4 G n n a b 0
      (fun t4 => K t4)
      ( K true)
noncomputable def dl4 (G : Gs) (n m : Nat) (R : Type) (st : St) (K : Kt R) : Option R := match st with
  | ⟨[(0, .one (.l .s a)), (1, .one (.l .s b)), (5, .one (.i i))], []⟩ => l4 G n m a b i (fun t4 => K .ret ⟨[(4, .one (.b t4))], []⟩) (K (.exit 0) ⟨[], []⟩)
  | _ => none
noncomputable def pc (G : Gs) (n : Nat) : Pcs := ⟨fun R id st K => bif Nat.beq id 4 then dl4 G n n R st K else none, fun _ _ _ _ => none, fun _ _ _ _ => none⟩
noncomputable def an : Ann := ⟨26, 0, [(4, [0, 1, 5])], [], [4], [(6, ⟨[([0, 1, 2, 3, 4, 5, 6, 7, 8], [], [])], [], [], [], []⟩)]⟩
theorem s4 (G : Gs) (n m : Nat) (R : Type) (a : List ByteArray) (b : List ByteArray) (i : Int) (K : Kt R) : den tb (orcOf (ents G)) (pc G n) an (nthC [1, 1, 0, 1, 0, 0] (bodyOf Try.f35)) ⟨[(0, .one (.l .s a)), (1, .one (.l .s b)), (5, .one (.i i))], []⟩ (roundK an.refs [0, 1, 5] ⟨[], [4], [(0, [])]⟩ (fun st => dl4 G n m R st K) K) = dl4 G n (m + 1) R ⟨[(0, .one (.l .s a)), (1, .one (.l .s b)), (5, .one (.i i))], []⟩ K := by kernel_rfl
theorem pl4 {G : Gs} (hG : AllE Try.prog (ents G)) (n : Nat) : ∀ m, PieceOK Try.prog an (.loop (nthC [1, 1, 0, 1, 0, 0] (bodyOf Try.f35))) (dl4 G n m) := by
  refine loop_piece mixed tb_ok (orc_ok hG) (pc := pc G n) (lv := [0, 1, 5]) (o := ⟨[], [4], [(0, [])]⟩) (by
    have h : pieces an (nthC [1, 1, 0, 1, 0, 0] (bodyOf Try.f35)) = [] := by kernel_rfl
    rw [h]
    exact trivial) (fun R st K => ?_) (fun m R st K r h => ?_)
  · unfold dl4; split <;> rfl
  · have e := h
    unfold dl4 at e
    split at e
    · rename_i x0 x1 x2; exact (s4 G n m R x0 x1 x2 K).trans h
    · cases e
theorem allp {G : Gs} (hG : AllE Try.prog (ents G)) (n : Nat) : AllP Try.prog an (pc G n) (pieces an (bodyOf Try.f35)) := by
    have h : pieces an (bodyOf Try.f35) = [(1, 4, .loop (nthC [1, 1, 0, 1, 0, 0] (bodyOf Try.f35)))] := by kernel_rfl
    rw [h]
    exact ⟨pl4 hG n n, trivial⟩
/-- What the function computes. -/
noncomputable def Does (G : Gs) (a : List ByteArray) (b : List ByteArray) (r : Bool) : Prop := ∃ n, main (R := AT × List Ob) G n a b (fun r0 => some (.one (.b r0), [])) = some (.one (.b r), [])
theorem eq (G : Gs) (n : Nat) (a : List ByteArray) (b : List ByteArray) : den tb (orcOf (ents G)) (pc G n) an (bodyOf Try.f35) ⟨argsD 0 [.one (.l .s a), .one (.l .s b)], []⟩ (atEnd (finF tb an [.tmp 4])) = main (R := AT × List Ob) G n a b (fun r0 => some (.one (.b r0), [])) := by kernel_rfl
theorem ok {G : Gs} (hG : AllE Try.prog (ents G)) {g : List ByteArray → List ByteArray → Option (Bool)} (hg : ∀ a b r, g a b = some r → Does G a b r) : EntOK Try.prog (ent g) := fun R xs H K r hc => by
  simp only [ent] at hc
  split at hc
  · rename_i a a2
    obtain ⟨r, q1, q2⟩ := bind_some hc
    obtain ⟨n, q3⟩ := hg a a2 _ q1
    exact ⟨_, _, q2, fn_of_den (pc := pc G n) (an := an) (xs := [.one (.l .s a), .one (.l .s a2)]) (H := []) (fin := finF tb an [.tmp 4]) mixed tb_ok (orc_ok hG) (fn := Try.f35) (c := bodyOf Try.f35) Try.func35 (by kernel_rfl) (by kernel_rfl) (by kernel_rfl) (by kernel_rfl) (by kernel_rfl) (rs := [.tmp 4]) (by kernel_rfl) (.inl rfl) (allp hG n) ((eq G n a a2).trans q3)⟩
  · cases hc
end l_eqStringS
namespace l_eqSub
structure Gs where
  none_ : Unit
noncomputable def ents (_ : Gs) : List Ent := []
noncomputable def main {R : Type} (G : Gs) (n : Nat) (a : Sb) (b : Sb) (K : Bool → Option R) : Option R :=
  bif !decide ((Sb.low a) = (Sb.low b)) then
    (K false)
  else
    bif !decide ((Sb.high a) = (Sb.high b)) then
      (K false)
    else
      K true
noncomputable def pc (_ : Gs) (_ : Nat) : Pcs := ⟨fun _ _ _ _ => none, fun _ _ _ _ => none, fun _ _ _ _ => none⟩
noncomputable def an : Ann := ⟨15, 0, [], [], [4], []⟩
theorem allp {G : Gs} (hG : AllE Try.prog (ents G)) (n : Nat) : AllP Try.prog an (pc G n) (pieces an (bodyOf Try.f51)) := by
    have h : pieces an (bodyOf Try.f51) = [] := by kernel_rfl
    rw [h]
    exact trivial
/-- What the function computes. -/
noncomputable def Does (G : Gs) (a : Sb) (b : Sb) (r : Bool) : Prop := ∃ n, main (R := AT × List Ob) G n a b (fun r0 => some (.one (.b r0), [])) = some (.one (.b r), [])
theorem eq (G : Gs) (n : Nat) (a : Sb) (b : Sb) : den tb (orcOf (ents G)) (pc G n) an (bodyOf Try.f51) ⟨argsD 0 [.agg [.i (Sb.low a), .i (Sb.high a)], .agg [.i (Sb.low b), .i (Sb.high b)]], []⟩ (atEnd (finF tb an [.tmp 4])) = main (R := AT × List Ob) G n a b (fun r0 => some (.one (.b r0), [])) := by kernel_rfl
theorem ok {G : Gs} (hG : AllE Try.prog (ents G)) {g : Sb → Sb → Option (Bool)} (hg : ∀ a b r, g a b = some r → Does G a b r) : EntOK Try.prog (ent g) := fun R xs H K r hc => by
  simp only [ent] at hc
  split at hc
  · rename_i a a2 a3 a4
    obtain ⟨r, q1, q2⟩ := bind_some hc
    obtain ⟨n, q3⟩ := hg (Sb.mk a a2) (Sb.mk a3 a4) _ q1
    exact ⟨_, _, q2, fn_of_den (pc := pc G n) (an := an) (xs := [.agg [.i a, .i a2], .agg [.i a3, .i a4]]) (H := []) (fin := finF tb an [.tmp 4]) mixed tb_ok (orc_ok hG) (fn := Try.f51) (c := bodyOf Try.f51) Try.func51 (by kernel_rfl) (by kernel_rfl) (by kernel_rfl) (by kernel_rfl) (by kernel_rfl) (rs := [.tmp 4]) (by kernel_rfl) (.inl rfl) (allp hG n) ((eq G n (Sb.mk a a2) (Sb.mk a3 a4)).trans q3)⟩
  · cases hc
end l_eqSub
namespace l_eqSubS
structure Gs where
  l_eqSub : Sb → Sb → Option (Bool)
noncomputable def ents (G : Gs) : List Ent := [l_eqSub.ent G.l_eqSub]
noncomputable def b4 {R : Type} (G : Gs) (n : Nat) (a : List Sb) (b : List Sb) (i : Int) (nx : List Sb → List Sb → Int → Option R) (k0 : Bool → Option R) (k1 : Option R) : Option R :=
  bif decide (i < (List.length a : Int)) then
    (
    Option.bind (ix a i) fun e2 =>
    Option.bind (ix b i) fun e4 =>
    Option.bind (G.l_eqSub e2 e4) fun r2 =>
    bif !r2 then
      (k0 false)
    else
      nx a b (wr (i + 1))
    )
  else
    k1
noncomputable def l4 {R : Type} (G : Gs) (n m : Nat) (a : List Sb) (b : List Sb) (i : Int) (k0 : Bool → Option R) (k1 : Option R) : Option R := iter (fun (v : List Sb × List Sb × Int) nx => b4 G n v.1 v.2.1 v.2.2 (fun y0 y1 y2 => nx (y0, y1, y2)) k0 k1) m (a, b, i)
noncomputable def main {R : Type} (G : Gs) (n : Nat) (a : List Sb) (b : List Sb) (K : Bool → Option R) : Option R :=
  bif !decide ((List.length a : Int) = (List.length b : Int)) then
    (K false)
  else
    l4 G n n a b 0
      (fun t4 => K t4)
      ( K true)
noncomputable def dl4 (G : Gs) (n m : Nat) (R : Type) (st : St) (K : Kt R) : Option R := match st with
  | ⟨[(0, .one (.l (.n 5) a)), (1, .one (.l (.n 5) b)), (5, .one (.i i))], []⟩ => l4 G n m a b i (fun t4 => K .ret ⟨[(4, .one (.b t4))], []⟩) (K (.exit 0) ⟨[], []⟩)
  | _ => none
noncomputable def pc (G : Gs) (n : Nat) : Pcs := ⟨fun R id st K => bif Nat.beq id 4 then dl4 G n n R st K else none, fun _ _ _ _ => none, fun _ _ _ _ => none⟩
noncomputable def an : Ann := ⟨27, 0, [(4, [0, 1, 5])], [], [4], [(6, ⟨[([0, 1, 2, 3, 4, 5, 6, 7, 8, 9], [], [])], [], [], [], []⟩)]⟩
theorem s4 (G : Gs) (n m : Nat) (R : Type) (a : List Sb) (b : List Sb) (i : Int) (K : Kt R) : den tb (orcOf (ents G)) (pc G n) an (nthC [1, 1, 0, 1, 0, 0] (bodyOf Try.f36)) ⟨[(0, .one (.l (.n 5) a)), (1, .one (.l (.n 5) b)), (5, .one (.i i))], []⟩ (roundK an.refs [0, 1, 5] ⟨[], [4], [(0, [])]⟩ (fun st => dl4 G n m R st K) K) = dl4 G n (m + 1) R ⟨[(0, .one (.l (.n 5) a)), (1, .one (.l (.n 5) b)), (5, .one (.i i))], []⟩ K := by kernel_rfl
theorem pl4 {G : Gs} (hG : AllE Try.prog (ents G)) (n : Nat) : ∀ m, PieceOK Try.prog an (.loop (nthC [1, 1, 0, 1, 0, 0] (bodyOf Try.f36))) (dl4 G n m) := by
  refine loop_piece mixed tb_ok (orc_ok hG) (pc := pc G n) (lv := [0, 1, 5]) (o := ⟨[], [4], [(0, [])]⟩) (by
    have h : pieces an (nthC [1, 1, 0, 1, 0, 0] (bodyOf Try.f36)) = [] := by kernel_rfl
    rw [h]
    exact trivial) (fun R st K => ?_) (fun m R st K r h => ?_)
  · unfold dl4; split <;> rfl
  · have e := h
    unfold dl4 at e
    split at e
    · rename_i x0 x1 x2; exact (s4 G n m R x0 x1 x2 K).trans h
    · cases e
theorem allp {G : Gs} (hG : AllE Try.prog (ents G)) (n : Nat) : AllP Try.prog an (pc G n) (pieces an (bodyOf Try.f36)) := by
    have h : pieces an (bodyOf Try.f36) = [(1, 4, .loop (nthC [1, 1, 0, 1, 0, 0] (bodyOf Try.f36)))] := by kernel_rfl
    rw [h]
    exact ⟨pl4 hG n n, trivial⟩
/-- What the function computes. -/
noncomputable def Does (G : Gs) (a : List Sb) (b : List Sb) (r : Bool) : Prop := ∃ n, main (R := AT × List Ob) G n a b (fun r0 => some (.one (.b r0), [])) = some (.one (.b r), [])
theorem eq (G : Gs) (n : Nat) (a : List Sb) (b : List Sb) : den tb (orcOf (ents G)) (pc G n) an (bodyOf Try.f36) ⟨argsD 0 [.one (.l (.n 5) a), .one (.l (.n 5) b)], []⟩ (atEnd (finF tb an [.tmp 4])) = main (R := AT × List Ob) G n a b (fun r0 => some (.one (.b r0), [])) := by kernel_rfl
theorem ok {G : Gs} (hG : AllE Try.prog (ents G)) {g : List Sb → List Sb → Option (Bool)} (hg : ∀ a b r, g a b = some r → Does G a b r) : EntOK Try.prog (ent g) := fun R xs H K r hc => by
  simp only [ent] at hc
  split at hc
  · rename_i a a2
    obtain ⟨r, q1, q2⟩ := bind_some hc
    obtain ⟨n, q3⟩ := hg a a2 _ q1
    exact ⟨_, _, q2, fn_of_den (pc := pc G n) (an := an) (xs := [.one (.l (.n 5) a), .one (.l (.n 5) a2)]) (H := []) (fin := finF tb an [.tmp 4]) mixed tb_ok (orc_ok hG) (fn := Try.f36) (c := bodyOf Try.f36) Try.func36 (by kernel_rfl) (by kernel_rfl) (by kernel_rfl) (by kernel_rfl) (by kernel_rfl) (rs := [.tmp 4]) (by kernel_rfl) (.inl rfl) (allp hG n) ((eq G n a a2).trans q3)⟩
  · cases hc
end l_eqSubS
namespace l_eqDecl
structure Gs where
  l_eqIntS : List Int → List Int → Option (Bool)
noncomputable def ents (G : Gs) : List Ent := [l_eqIntS.ent G.l_eqIntS]
noncomputable def main {R : Type} (G : Gs) (n : Nat) (a : Dc) (b : Dc) (K : Bool → Option R) : Option R :=
  Option.bind (G.l_eqIntS (Dc.args a) (Dc.args b)) fun r =>
  bif !r then
    (K false)
  else
    bif !decide ((Dc.result a) = (Dc.result b)) then
      (K false)
    else
      K true
noncomputable def pc (_ : Gs) (_ : Nat) : Pcs := ⟨fun _ _ _ _ => none, fun _ _ _ _ => none, fun _ _ _ _ => none⟩
noncomputable def an : Ann := ⟨16, 0, [], [], [4], []⟩
theorem allp {G : Gs} (hG : AllE Try.prog (ents G)) (n : Nat) : AllP Try.prog an (pc G n) (pieces an (bodyOf Try.f58)) := by
    have h : pieces an (bodyOf Try.f58) = [] := by kernel_rfl
    rw [h]
    exact trivial
/-- What the function computes. -/
noncomputable def Does (G : Gs) (a : Dc) (b : Dc) (r : Bool) : Prop := ∃ n, main (R := AT × List Ob) G n a b (fun r0 => some (.one (.b r0), [])) = some (.one (.b r), [])
theorem eq (G : Gs) (n : Nat) (a : Dc) (b : Dc) : den tb (orcOf (ents G)) (pc G n) an (bodyOf Try.f58) ⟨argsD 0 [.agg [.l .i (Dc.args a), .i (Dc.result a)], .agg [.l .i (Dc.args b), .i (Dc.result b)]], []⟩ (atEnd (finF tb an [.tmp 4])) = main (R := AT × List Ob) G n a b (fun r0 => some (.one (.b r0), [])) := by kernel_rfl
theorem ok {G : Gs} (hG : AllE Try.prog (ents G)) {g : Dc → Dc → Option (Bool)} (hg : ∀ a b r, g a b = some r → Does G a b r) : EntOK Try.prog (ent g) := fun R xs H K r hc => by
  simp only [ent] at hc
  split at hc
  · rename_i a a2 a3 a4
    obtain ⟨r, q1, q2⟩ := bind_some hc
    obtain ⟨n, q3⟩ := hg (Dc.mk a a2) (Dc.mk a3 a4) _ q1
    exact ⟨_, _, q2, fn_of_den (pc := pc G n) (an := an) (xs := [.agg [.l .i a, .i a2], .agg [.l .i a3, .i a4]]) (H := []) (fin := finF tb an [.tmp 4]) mixed tb_ok (orc_ok hG) (fn := Try.f58) (c := bodyOf Try.f58) Try.func58 (by kernel_rfl) (by kernel_rfl) (by kernel_rfl) (by kernel_rfl) (by kernel_rfl) (rs := [.tmp 4]) (by kernel_rfl) (.inl rfl) (allp hG n) ((eq G n (Dc.mk a a2) (Dc.mk a3 a4)).trans q3)⟩
  · cases hc
end l_eqDecl
namespace l_eqDeclS
structure Gs where
  l_eqDecl : Dc → Dc → Option (Bool)
noncomputable def ents (G : Gs) : List Ent := [l_eqDecl.ent G.l_eqDecl]
noncomputable def b4 {R : Type} (G : Gs) (n : Nat) (a : List Dc) (b : List Dc) (i : Int) (nx : List Dc → List Dc → Int → Option R) (k0 : Bool → Option R) (k1 : Option R) : Option R :=
  bif decide (i < (List.length a : Int)) then
    (
    Option.bind (ix a i) fun e2 =>
    Option.bind (ix b i) fun e4 =>
    Option.bind (G.l_eqDecl e2 e4) fun r2 =>
    bif !r2 then
      (k0 false)
    else
      nx a b (wr (i + 1))
    )
  else
    k1
noncomputable def l4 {R : Type} (G : Gs) (n m : Nat) (a : List Dc) (b : List Dc) (i : Int) (k0 : Bool → Option R) (k1 : Option R) : Option R := iter (fun (v : List Dc × List Dc × Int) nx => b4 G n v.1 v.2.1 v.2.2 (fun y0 y1 y2 => nx (y0, y1, y2)) k0 k1) m (a, b, i)
noncomputable def main {R : Type} (G : Gs) (n : Nat) (a : List Dc) (b : List Dc) (K : Bool → Option R) : Option R :=
  bif !decide ((List.length a : Int) = (List.length b : Int)) then
    (K false)
  else
    l4 G n n a b 0
      (fun t4 => K t4)
      ( K true)
noncomputable def dl4 (G : Gs) (n m : Nat) (R : Type) (st : St) (K : Kt R) : Option R := match st with
  | ⟨[(0, .one (.l (.n 7) a)), (1, .one (.l (.n 7) b)), (5, .one (.i i))], []⟩ => l4 G n m a b i (fun t4 => K .ret ⟨[(4, .one (.b t4))], []⟩) (K (.exit 0) ⟨[], []⟩)
  | _ => none
noncomputable def pc (G : Gs) (n : Nat) : Pcs := ⟨fun R id st K => bif Nat.beq id 4 then dl4 G n n R st K else none, fun _ _ _ _ => none, fun _ _ _ _ => none⟩
noncomputable def an : Ann := ⟨27, 0, [(4, [0, 1, 5])], [], [4], [(6, ⟨[([0, 1, 2, 3, 4, 5, 6, 7, 8, 9], [], [])], [], [], [], []⟩)]⟩
theorem s4 (G : Gs) (n m : Nat) (R : Type) (a : List Dc) (b : List Dc) (i : Int) (K : Kt R) : den tb (orcOf (ents G)) (pc G n) an (nthC [1, 1, 0, 1, 0, 0] (bodyOf Try.f52)) ⟨[(0, .one (.l (.n 7) a)), (1, .one (.l (.n 7) b)), (5, .one (.i i))], []⟩ (roundK an.refs [0, 1, 5] ⟨[], [4], [(0, [])]⟩ (fun st => dl4 G n m R st K) K) = dl4 G n (m + 1) R ⟨[(0, .one (.l (.n 7) a)), (1, .one (.l (.n 7) b)), (5, .one (.i i))], []⟩ K := by kernel_rfl
theorem pl4 {G : Gs} (hG : AllE Try.prog (ents G)) (n : Nat) : ∀ m, PieceOK Try.prog an (.loop (nthC [1, 1, 0, 1, 0, 0] (bodyOf Try.f52))) (dl4 G n m) := by
  refine loop_piece mixed tb_ok (orc_ok hG) (pc := pc G n) (lv := [0, 1, 5]) (o := ⟨[], [4], [(0, [])]⟩) (by
    have h : pieces an (nthC [1, 1, 0, 1, 0, 0] (bodyOf Try.f52)) = [] := by kernel_rfl
    rw [h]
    exact trivial) (fun R st K => ?_) (fun m R st K r h => ?_)
  · unfold dl4; split <;> rfl
  · have e := h
    unfold dl4 at e
    split at e
    · rename_i x0 x1 x2; exact (s4 G n m R x0 x1 x2 K).trans h
    · cases e
theorem allp {G : Gs} (hG : AllE Try.prog (ents G)) (n : Nat) : AllP Try.prog an (pc G n) (pieces an (bodyOf Try.f52)) := by
    have h : pieces an (bodyOf Try.f52) = [(1, 4, .loop (nthC [1, 1, 0, 1, 0, 0] (bodyOf Try.f52)))] := by kernel_rfl
    rw [h]
    exact ⟨pl4 hG n n, trivial⟩
/-- What the function computes. -/
noncomputable def Does (G : Gs) (a : List Dc) (b : List Dc) (r : Bool) : Prop := ∃ n, main (R := AT × List Ob) G n a b (fun r0 => some (.one (.b r0), [])) = some (.one (.b r), [])
theorem eq (G : Gs) (n : Nat) (a : List Dc) (b : List Dc) : den tb (orcOf (ents G)) (pc G n) an (bodyOf Try.f52) ⟨argsD 0 [.one (.l (.n 7) a), .one (.l (.n 7) b)], []⟩ (atEnd (finF tb an [.tmp 4])) = main (R := AT × List Ob) G n a b (fun r0 => some (.one (.b r0), [])) := by kernel_rfl
theorem ok {G : Gs} (hG : AllE Try.prog (ents G)) {g : List Dc → List Dc → Option (Bool)} (hg : ∀ a b r, g a b = some r → Does G a b r) : EntOK Try.prog (ent g) := fun R xs H K r hc => by
  simp only [ent] at hc
  split at hc
  · rename_i a a2
    obtain ⟨r, q1, q2⟩ := bind_some hc
    obtain ⟨n, q3⟩ := hg a a2 _ q1
    exact ⟨_, _, q2, fn_of_den (pc := pc G n) (an := an) (xs := [.one (.l (.n 7) a), .one (.l (.n 7) a2)]) (H := []) (fin := finF tb an [.tmp 4]) mixed tb_ok (orc_ok hG) (fn := Try.f52) (c := bodyOf Try.f52) Try.func52 (by kernel_rfl) (by kernel_rfl) (by kernel_rfl) (by kernel_rfl) (by kernel_rfl) (rs := [.tmp 4]) (by kernel_rfl) (.inl rfl) (allp hG n) ((eq G n a a2).trans q3)⟩
  · cases hc
end l_eqDeclS
namespace l_eqOp
structure Gs where
  l_eqDeclS : List Dc → List Dc → Option (Bool)
noncomputable def ents (G : Gs) : List Ent := [l_eqDeclS.ent G.l_eqDeclS]
noncomputable def main {R : Type} (G : Gs) (n : Nat) (a : Opr) (b : Opr) (K : Bool → Option R) : Option R :=
  bif !sEq (Opr.name a) (Opr.name b) then
    (K false)
  else
    Option.bind (G.l_eqDeclS (Opr.decls a) (Opr.decls b)) fun r =>
    bif !r then
      (K false)
    else
      bif !((Opr.assoc a) == (Opr.assoc b)) then
        (K false)
      else
        bif !((Opr.comm a) == (Opr.comm b)) then
          (K false)
        else
          bif !decide ((Opr.unit a) = (Opr.unit b)) then
            (K false)
          else
            K true
noncomputable def pc (_ : Gs) (_ : Nat) : Pcs := ⟨fun _ _ _ _ => none, fun _ _ _ _ => none, fun _ _ _ _ => none⟩
noncomputable def an : Ann := ⟨31, 0, [], [], [4], []⟩
theorem allp {G : Gs} (hG : AllE Try.prog (ents G)) (n : Nat) : AllP Try.prog an (pc G n) (pieces an (bodyOf Try.f37)) := by
    have h : pieces an (bodyOf Try.f37) = [] := by kernel_rfl
    rw [h]
    exact trivial
/-- What the function computes. -/
noncomputable def Does (G : Gs) (a : Opr) (b : Opr) (r : Bool) : Prop := ∃ n, main (R := AT × List Ob) G n a b (fun r0 => some (.one (.b r0), [])) = some (.one (.b r), [])
theorem eq (G : Gs) (n : Nat) (a : Opr) (b : Opr) : den tb (orcOf (ents G)) (pc G n) an (bodyOf Try.f37) ⟨argsD 0 [.agg [.s (Opr.name a), .l (.n 7) (Opr.decls a), .b (Opr.assoc a), .b (Opr.comm a), .i (Opr.unit a)], .agg [.s (Opr.name b), .l (.n 7) (Opr.decls b), .b (Opr.assoc b), .b (Opr.comm b), .i (Opr.unit b)]], []⟩ (atEnd (finF tb an [.tmp 4])) = main (R := AT × List Ob) G n a b (fun r0 => some (.one (.b r0), [])) := by kernel_rfl
theorem ok {G : Gs} (hG : AllE Try.prog (ents G)) {g : Opr → Opr → Option (Bool)} (hg : ∀ a b r, g a b = some r → Does G a b r) : EntOK Try.prog (ent g) := fun R xs H K r hc => by
  simp only [ent] at hc
  split at hc
  · rename_i a a2 a3 a4 a5 a6 a7 a8 a9 a10
    obtain ⟨r, q1, q2⟩ := bind_some hc
    obtain ⟨n, q3⟩ := hg (Opr.mk a a2 a3 a4 a5) (Opr.mk a6 a7 a8 a9 a10) _ q1
    exact ⟨_, _, q2, fn_of_den (pc := pc G n) (an := an) (xs := [.agg [.s a, .l (.n 7) a2, .b a3, .b a4, .i a5], .agg [.s a6, .l (.n 7) a7, .b a8, .b a9, .i a10]]) (H := []) (fin := finF tb an [.tmp 4]) mixed tb_ok (orc_ok hG) (fn := Try.f37) (c := bodyOf Try.f37) Try.func37 (by kernel_rfl) (by kernel_rfl) (by kernel_rfl) (by kernel_rfl) (by kernel_rfl) (rs := [.tmp 4]) (by kernel_rfl) (.inl rfl) (allp hG n) ((eq G n (Opr.mk a a2 a3 a4 a5) (Opr.mk a6 a7 a8 a9 a10)).trans q3)⟩
  · cases hc
end l_eqOp
namespace l_eqOpS
structure Gs where
  l_eqOp : Opr → Opr → Option (Bool)
noncomputable def ents (G : Gs) : List Ent := [l_eqOp.ent G.l_eqOp]
noncomputable def b4 {R : Type} (G : Gs) (n : Nat) (a : List Opr) (b : List Opr) (i : Int) (nx : List Opr → List Opr → Int → Option R) (k0 : Bool → Option R) (k1 : Option R) : Option R :=
  bif decide (i < (List.length a : Int)) then
    (
    Option.bind (ix a i) fun e2 =>
    Option.bind (ix b i) fun e4 =>
    Option.bind (G.l_eqOp e2 e4) fun r2 =>
    bif !r2 then
      (k0 false)
    else
      nx a b (wr (i + 1))
    )
  else
    k1
noncomputable def l4 {R : Type} (G : Gs) (n m : Nat) (a : List Opr) (b : List Opr) (i : Int) (k0 : Bool → Option R) (k1 : Option R) : Option R := iter (fun (v : List Opr × List Opr × Int) nx => b4 G n v.1 v.2.1 v.2.2 (fun y0 y1 y2 => nx (y0, y1, y2)) k0 k1) m (a, b, i)
noncomputable def main {R : Type} (G : Gs) (n : Nat) (a : List Opr) (b : List Opr) (K : Bool → Option R) : Option R :=
  bif !decide ((List.length a : Int) = (List.length b : Int)) then
    (K false)
  else
    l4 G n n a b 0
      (fun t4 => K t4)
      ( K true)
noncomputable def dl4 (G : Gs) (n m : Nat) (R : Type) (st : St) (K : Kt R) : Option R := match st with
  | ⟨[(0, .one (.l (.n 8) a)), (1, .one (.l (.n 8) b)), (5, .one (.i i))], []⟩ => l4 G n m a b i (fun t4 => K .ret ⟨[(4, .one (.b t4))], []⟩) (K (.exit 0) ⟨[], []⟩)
  | _ => none
noncomputable def pc (G : Gs) (n : Nat) : Pcs := ⟨fun R id st K => bif Nat.beq id 4 then dl4 G n n R st K else none, fun _ _ _ _ => none, fun _ _ _ _ => none⟩
noncomputable def an : Ann := ⟨27, 0, [(4, [0, 1, 5])], [], [4], [(6, ⟨[([0, 1, 2, 3, 4, 5, 6, 7, 8, 9], [], [])], [], [], [], []⟩)]⟩
theorem s4 (G : Gs) (n m : Nat) (R : Type) (a : List Opr) (b : List Opr) (i : Int) (K : Kt R) : den tb (orcOf (ents G)) (pc G n) an (nthC [1, 1, 0, 1, 0, 0] (bodyOf Try.f20)) ⟨[(0, .one (.l (.n 8) a)), (1, .one (.l (.n 8) b)), (5, .one (.i i))], []⟩ (roundK an.refs [0, 1, 5] ⟨[], [4], [(0, [])]⟩ (fun st => dl4 G n m R st K) K) = dl4 G n (m + 1) R ⟨[(0, .one (.l (.n 8) a)), (1, .one (.l (.n 8) b)), (5, .one (.i i))], []⟩ K := by kernel_rfl
theorem pl4 {G : Gs} (hG : AllE Try.prog (ents G)) (n : Nat) : ∀ m, PieceOK Try.prog an (.loop (nthC [1, 1, 0, 1, 0, 0] (bodyOf Try.f20))) (dl4 G n m) := by
  refine loop_piece mixed tb_ok (orc_ok hG) (pc := pc G n) (lv := [0, 1, 5]) (o := ⟨[], [4], [(0, [])]⟩) (by
    have h : pieces an (nthC [1, 1, 0, 1, 0, 0] (bodyOf Try.f20)) = [] := by kernel_rfl
    rw [h]
    exact trivial) (fun R st K => ?_) (fun m R st K r h => ?_)
  · unfold dl4; split <;> rfl
  · have e := h
    unfold dl4 at e
    split at e
    · rename_i x0 x1 x2; exact (s4 G n m R x0 x1 x2 K).trans h
    · cases e
theorem allp {G : Gs} (hG : AllE Try.prog (ents G)) (n : Nat) : AllP Try.prog an (pc G n) (pieces an (bodyOf Try.f20)) := by
    have h : pieces an (bodyOf Try.f20) = [(1, 4, .loop (nthC [1, 1, 0, 1, 0, 0] (bodyOf Try.f20)))] := by kernel_rfl
    rw [h]
    exact ⟨pl4 hG n n, trivial⟩
/-- What the function computes. -/
noncomputable def Does (G : Gs) (a : List Opr) (b : List Opr) (r : Bool) : Prop := ∃ n, main (R := AT × List Ob) G n a b (fun r0 => some (.one (.b r0), [])) = some (.one (.b r), [])
theorem eq (G : Gs) (n : Nat) (a : List Opr) (b : List Opr) : den tb (orcOf (ents G)) (pc G n) an (bodyOf Try.f20) ⟨argsD 0 [.one (.l (.n 8) a), .one (.l (.n 8) b)], []⟩ (atEnd (finF tb an [.tmp 4])) = main (R := AT × List Ob) G n a b (fun r0 => some (.one (.b r0), [])) := by kernel_rfl
theorem ok {G : Gs} (hG : AllE Try.prog (ents G)) {g : List Opr → List Opr → Option (Bool)} (hg : ∀ a b r, g a b = some r → Does G a b r) : EntOK Try.prog (ent g) := fun R xs H K r hc => by
  simp only [ent] at hc
  split at hc
  · rename_i a a2
    obtain ⟨r, q1, q2⟩ := bind_some hc
    obtain ⟨n, q3⟩ := hg a a2 _ q1
    exact ⟨_, _, q2, fn_of_den (pc := pc G n) (an := an) (xs := [.one (.l (.n 8) a), .one (.l (.n 8) a2)]) (H := []) (fin := finF tb an [.tmp 4]) mixed tb_ok (orc_ok hG) (fn := Try.f20) (c := bodyOf Try.f20) Try.func20 (by kernel_rfl) (by kernel_rfl) (by kernel_rfl) (by kernel_rfl) (by kernel_rfl) (rs := [.tmp 4]) (by kernel_rfl) (.inl rfl) (allp hG n) ((eq G n a a2).trans q3)⟩
  · cases hc
end l_eqOpS
namespace l_eqSorts
structure Gs where
  l_eqStringS : List ByteArray → List ByteArray → Option (Bool)
  l_eqSubS : List Sb → List Sb → Option (Bool)
noncomputable def ents (G : Gs) : List Ent := [l_eqStringS.ent G.l_eqStringS, l_eqSubS.ent G.l_eqSubS]
noncomputable def main {R : Type} (G : Gs) (n : Nat) (a : So) (b : So) (K : Bool → Option R) : Option R :=
  Option.bind (G.l_eqStringS (So.names a) (So.names b)) fun r =>
  bif !r then
    (K false)
  else
    Option.bind (G.l_eqSubS (So.subs a) (So.subs b)) fun r2 =>
    bif !r2 then
      (K false)
    else
      K true
noncomputable def pc (_ : Gs) (_ : Nat) : Pcs := ⟨fun _ _ _ _ => none, fun _ _ _ _ => none, fun _ _ _ _ => none⟩
noncomputable def an : Ann := ⟨17, 0, [], [], [4], []⟩
theorem allp {G : Gs} (hG : AllE Try.prog (ents G)) (n : Nat) : AllP Try.prog an (pc G n) (pieces an (bodyOf Try.f19)) := by
    have h : pieces an (bodyOf Try.f19) = [] := by kernel_rfl
    rw [h]
    exact trivial
/-- What the function computes. -/
noncomputable def Does (G : Gs) (a : So) (b : So) (r : Bool) : Prop := ∃ n, main (R := AT × List Ob) G n a b (fun r0 => some (.one (.b r0), [])) = some (.one (.b r), [])
theorem eq (G : Gs) (n : Nat) (a : So) (b : So) : den tb (orcOf (ents G)) (pc G n) an (bodyOf Try.f19) ⟨argsD 0 [.agg [.l .s (So.names a), .l (.n 5) (So.subs a)], .agg [.l .s (So.names b), .l (.n 5) (So.subs b)]], []⟩ (atEnd (finF tb an [.tmp 4])) = main (R := AT × List Ob) G n a b (fun r0 => some (.one (.b r0), [])) := by kernel_rfl
theorem ok {G : Gs} (hG : AllE Try.prog (ents G)) {g : So → So → Option (Bool)} (hg : ∀ a b r, g a b = some r → Does G a b r) : EntOK Try.prog (ent g) := fun R xs H K r hc => by
  simp only [ent] at hc
  split at hc
  · rename_i a a2 a3 a4
    obtain ⟨r, q1, q2⟩ := bind_some hc
    obtain ⟨n, q3⟩ := hg (So.mk a a2) (So.mk a3 a4) _ q1
    exact ⟨_, _, q2, fn_of_den (pc := pc G n) (an := an) (xs := [.agg [.l .s a, .l (.n 5) a2], .agg [.l .s a3, .l (.n 5) a4]]) (H := []) (fin := finF tb an [.tmp 4]) mixed tb_ok (orc_ok hG) (fn := Try.f19) (c := bodyOf Try.f19) Try.func19 (by kernel_rfl) (by kernel_rfl) (by kernel_rfl) (by kernel_rfl) (by kernel_rfl) (rs := [.tmp 4]) (by kernel_rfl) (.inl rfl) (allp hG n) ((eq G n (So.mk a a2) (So.mk a3 a4)).trans q3)⟩
  · cases hc
end l_eqSorts
namespace l_eqSignature
structure Gs where
  l_eqSorts : So → So → Option (Bool)
  l_eqOpS : List Opr → List Opr → Option (Bool)
noncomputable def ents (G : Gs) : List Ent := [l_eqSorts.ent G.l_eqSorts, l_eqOpS.ent G.l_eqOpS]
noncomputable def main {R : Type} (G : Gs) (n : Nat) (a : Sg) (b : Sg) (K : Bool → Option R) : Option R :=
  Option.bind (G.l_eqSorts (Sg.sorts a) (Sg.sorts b)) fun r =>
  bif !r then
    (K false)
  else
    Option.bind (G.l_eqOpS (Sg.ops a) (Sg.ops b)) fun r2 =>
    bif !r2 then
      (K false)
    else
      K true
noncomputable def pc (_ : Gs) (_ : Nat) : Pcs := ⟨fun _ _ _ _ => none, fun _ _ _ _ => none, fun _ _ _ _ => none⟩
noncomputable def an : Ann := ⟨17, 0, [], [], [4], []⟩
theorem allp {G : Gs} (hG : AllE Try.prog (ents G)) (n : Nat) : AllP Try.prog an (pc G n) (pieces an (bodyOf Try.f9)) := by
    have h : pieces an (bodyOf Try.f9) = [] := by kernel_rfl
    rw [h]
    exact trivial
/-- What the function computes. -/
noncomputable def Does (G : Gs) (a : Sg) (b : Sg) (r : Bool) : Prop := ∃ n, main (R := AT × List Ob) G n a b (fun r0 => some (.one (.b r0), [])) = some (.one (.b r), [])
theorem eq (G : Gs) (n : Nat) (a : Sg) (b : Sg) : den tb (orcOf (ents G)) (pc G n) an (bodyOf Try.f9) ⟨argsD 0 [.agg [.l .s (So.names (Sg.sorts a)), .l (.n 5) (So.subs (Sg.sorts a)), .l (.n 8) (Sg.ops a)], .agg [.l .s (So.names (Sg.sorts b)), .l (.n 5) (So.subs (Sg.sorts b)), .l (.n 8) (Sg.ops b)]], []⟩ (atEnd (finF tb an [.tmp 4])) = main (R := AT × List Ob) G n a b (fun r0 => some (.one (.b r0), [])) := by kernel_rfl
theorem ok {G : Gs} (hG : AllE Try.prog (ents G)) {g : Sg → Sg → Option (Bool)} (hg : ∀ a b r, g a b = some r → Does G a b r) : EntOK Try.prog (ent g) := fun R xs H K r hc => by
  simp only [ent] at hc
  split at hc
  · rename_i a a2 a3 a4 a5 a6
    obtain ⟨r, q1, q2⟩ := bind_some hc
    obtain ⟨n, q3⟩ := hg (Sg.mk (So.mk a a2) a3) (Sg.mk (So.mk a4 a5) a6) _ q1
    exact ⟨_, _, q2, fn_of_den (pc := pc G n) (an := an) (xs := [.agg [.l .s a, .l (.n 5) a2, .l (.n 8) a3], .agg [.l .s a4, .l (.n 5) a5, .l (.n 8) a6]]) (H := []) (fin := finF tb an [.tmp 4]) mixed tb_ok (orc_ok hG) (fn := Try.f9) (c := bodyOf Try.f9) Try.func9 (by kernel_rfl) (by kernel_rfl) (by kernel_rfl) (by kernel_rfl) (by kernel_rfl) (rs := [.tmp 4]) (by kernel_rfl) (.inl rfl) (allp hG n) ((eq G n (Sg.mk (So.mk a a2) a3) (Sg.mk (So.mk a4 a5) a6)).trans q3)⟩
  · cases hc
end l_eqSignature
namespace l_toIntS
structure Gs where
  none_ : Unit
noncomputable def ents (_ : Gs) : List Ent := []
noncomputable def b3 {R : Type} (G : Gs) (n : Nat) (a : List Int) (i : Int) (h0 : List Int) (nx : List Int → Int → List Int → Option R) (k0 : List Int → Option R) : Option R :=
  bif decide (i < (List.length a : Int)) then
    (
    Option.bind (ix a i) fun e =>
    Option.bind (ix h0 i) fun e2 =>
    nx a (wr (i + 1)) (List.set h0 (Int.toNat i) e)
    )
  else
    k0 h0
noncomputable def l3 {R : Type} (G : Gs) (n m : Nat) (a : List Int) (i : Int) (h0 : List Int) (k0 : List Int → Option R) : Option R := iter (fun (v : List Int × Int × List Int) nx => b3 G n v.1 v.2.1 v.2.2 (fun y0 y1 y2 => nx (y0, y1, y2)) k0) m (a, i, h0)
noncomputable def main {R : Type} (G : Gs) (n : Nat) (a : List Int) (K : List Int → Option R) : Option R :=
  Option.bind (mk (α := Int) 0 (List.length a : Int)) fun xs =>
  l3 G n n a 0 xs
    (fun h0 => K h0)
noncomputable def dl3 (G : Gs) (n m : Nat) (R : Type) (st : St) (K : Kt R) : Option R := match st with
  | ⟨[(0, .one (.l .i a)), (3, .one (.o 0)), (4, .one (.i i))], [.row .i 0 h0]⟩ => l3 G n m a i h0 (fun h0 => K (.exit 0) ⟨[(3, .one (.o 0))], [.row .i 0 h0]⟩)
  | _ => none
noncomputable def pc (G : Gs) (n : Nat) : Pcs := ⟨fun R id st K => bif Nat.beq id 3 then dl3 G n n R st K else none, fun _ _ _ _ => none, fun _ _ _ _ => none⟩
noncomputable def an : Ann := ⟨22, 0, [(3, [0, 3, 4])], [], [2], []⟩
theorem s3 (G : Gs) (n m : Nat) (R : Type) (a : List Int) (i : Int) (h0 : List Int) (K : Kt R) : den tb (orcOf (ents G)) (pc G n) an (nthC [1, 1, 0, 1, 0, 0] (bodyOf Try.f7)) ⟨[(0, .one (.l .i a)), (3, .one (.o 0)), (4, .one (.i i))], [.row .i 0 h0]⟩ (roundK an.refs [0, 3, 4] ⟨[3], [2], [(0, [3])]⟩ (fun st => dl3 G n m R st K) K) = dl3 G n (m + 1) R ⟨[(0, .one (.l .i a)), (3, .one (.o 0)), (4, .one (.i i))], [.row .i 0 h0]⟩ K := by kernel_rfl
theorem pl3 {G : Gs} (hG : AllE Try.prog (ents G)) (n : Nat) : ∀ m, PieceOK Try.prog an (.loop (nthC [1, 1, 0, 1, 0, 0] (bodyOf Try.f7))) (dl3 G n m) := by
  refine loop_piece mixed tb_ok (orc_ok hG) (pc := pc G n) (lv := [0, 3, 4]) (o := ⟨[3], [2], [(0, [3])]⟩) (by
    have h : pieces an (nthC [1, 1, 0, 1, 0, 0] (bodyOf Try.f7)) = [] := by kernel_rfl
    rw [h]
    exact trivial) (fun R st K => ?_) (fun m R st K r h => ?_)
  · unfold dl3; split <;> rfl
  · have e := h
    unfold dl3 at e
    split at e
    · rename_i x0 x1 x2; exact (s3 G n m R x0 x1 x2 K).trans h
    · cases e
theorem allp {G : Gs} (hG : AllE Try.prog (ents G)) (n : Nat) : AllP Try.prog an (pc G n) (pieces an (bodyOf Try.f7)) := by
    have h : pieces an (bodyOf Try.f7) = [(1, 3, .loop (nthC [1, 1, 0, 1, 0, 0] (bodyOf Try.f7)))] := by kernel_rfl
    rw [h]
    exact ⟨pl3 hG n n, trivial⟩
/-- What the function computes. -/
noncomputable def Does (G : Gs) (a : List Int) (r : List Int) : Prop := ∃ n, main (R := AT × List Ob) G n a (fun r0 => some (.one (.l .i r0), [])) = some (.one (.l .i r), [])
theorem eq (G : Gs) (n : Nat) (a : List Int) : den tb (orcOf (ents G)) (pc G n) an (bodyOf Try.f7) ⟨argsD 0 [.one (.l .i a)], []⟩ (atEnd (finF tb an [.tmp 2])) = main (R := AT × List Ob) G n a (fun r0 => some (.one (.l .i r0), [])) := by kernel_rfl
theorem ok {G : Gs} (hG : AllE Try.prog (ents G)) {g : List Int → Option (List Int)} (hg : ∀ a r, g a = some r → Does G a r) : EntOK Try.prog (ent g) := fun R xs H K r hc => by
  simp only [ent] at hc
  split at hc
  · rename_i a
    obtain ⟨r, q1, q2⟩ := bind_some hc
    obtain ⟨n, q3⟩ := hg a _ q1
    exact ⟨_, _, q2, fn_of_den (pc := pc G n) (an := an) (xs := [.one (.l .i a)]) (H := []) (fin := finF tb an [.tmp 2]) mixed tb_ok (orc_ok hG) (fn := Try.f7) (c := bodyOf Try.f7) Try.func7 (by kernel_rfl) (by kernel_rfl) (by kernel_rfl) (by kernel_rfl) (by kernel_rfl) (rs := [.tmp 2]) (by kernel_rfl) (.inl rfl) (allp hG n) ((eq G n a).trans q3)⟩
  · cases hc
end l_toIntS
namespace l_toStringS
structure Gs where
  none_ : Unit
noncomputable def ents (_ : Gs) : List Ent := []
noncomputable def b3 {R : Type} (G : Gs) (n : Nat) (a : List ByteArray) (i : Int) (h0 : List ByteArray) (nx : List ByteArray → Int → List ByteArray → Option R) (k0 : List ByteArray → Option R) : Option R :=
  bif decide (i < (List.length a : Int)) then
    (
    Option.bind (ix a i) fun e =>
    Option.bind (ix h0 i) fun e2 =>
    nx a (wr (i + 1)) (List.set h0 (Int.toNat i) e)
    )
  else
    k0 h0
noncomputable def l3 {R : Type} (G : Gs) (n m : Nat) (a : List ByteArray) (i : Int) (h0 : List ByteArray) (k0 : List ByteArray → Option R) : Option R := iter (fun (v : List ByteArray × Int × List ByteArray) nx => b3 G n v.1 v.2.1 v.2.2 (fun y0 y1 y2 => nx (y0, y1, y2)) k0) m (a, i, h0)
noncomputable def main {R : Type} (G : Gs) (n : Nat) (a : List ByteArray) (K : List ByteArray → Option R) : Option R :=
  Option.bind (mk (α := ByteArray) ByteArray.empty (List.length a : Int)) fun xs =>
  l3 G n n a 0 xs
    (fun h0 => K h0)
noncomputable def dl3 (G : Gs) (n m : Nat) (R : Type) (st : St) (K : Kt R) : Option R := match st with
  | ⟨[(0, .one (.l .s a)), (3, .one (.o 0)), (4, .one (.i i))], [.row .s 0 h0]⟩ => l3 G n m a i h0 (fun h0 => K (.exit 0) ⟨[(3, .one (.o 0))], [.row .s 0 h0]⟩)
  | _ => none
noncomputable def pc (G : Gs) (n : Nat) : Pcs := ⟨fun R id st K => bif Nat.beq id 3 then dl3 G n n R st K else none, fun _ _ _ _ => none, fun _ _ _ _ => none⟩
noncomputable def an : Ann := ⟨22, 0, [(3, [0, 3, 4])], [], [2], []⟩
theorem s3 (G : Gs) (n m : Nat) (R : Type) (a : List ByteArray) (i : Int) (h0 : List ByteArray) (K : Kt R) : den tb (orcOf (ents G)) (pc G n) an (nthC [1, 1, 0, 1, 0, 0] (bodyOf Try.f28)) ⟨[(0, .one (.l .s a)), (3, .one (.o 0)), (4, .one (.i i))], [.row .s 0 h0]⟩ (roundK an.refs [0, 3, 4] ⟨[3], [2], [(0, [3])]⟩ (fun st => dl3 G n m R st K) K) = dl3 G n (m + 1) R ⟨[(0, .one (.l .s a)), (3, .one (.o 0)), (4, .one (.i i))], [.row .s 0 h0]⟩ K := by kernel_rfl
theorem pl3 {G : Gs} (hG : AllE Try.prog (ents G)) (n : Nat) : ∀ m, PieceOK Try.prog an (.loop (nthC [1, 1, 0, 1, 0, 0] (bodyOf Try.f28))) (dl3 G n m) := by
  refine loop_piece mixed tb_ok (orc_ok hG) (pc := pc G n) (lv := [0, 3, 4]) (o := ⟨[3], [2], [(0, [3])]⟩) (by
    have h : pieces an (nthC [1, 1, 0, 1, 0, 0] (bodyOf Try.f28)) = [] := by kernel_rfl
    rw [h]
    exact trivial) (fun R st K => ?_) (fun m R st K r h => ?_)
  · unfold dl3; split <;> rfl
  · have e := h
    unfold dl3 at e
    split at e
    · rename_i x0 x1 x2; exact (s3 G n m R x0 x1 x2 K).trans h
    · cases e
theorem allp {G : Gs} (hG : AllE Try.prog (ents G)) (n : Nat) : AllP Try.prog an (pc G n) (pieces an (bodyOf Try.f28)) := by
    have h : pieces an (bodyOf Try.f28) = [(1, 3, .loop (nthC [1, 1, 0, 1, 0, 0] (bodyOf Try.f28)))] := by kernel_rfl
    rw [h]
    exact ⟨pl3 hG n n, trivial⟩
/-- What the function computes. -/
noncomputable def Does (G : Gs) (a : List ByteArray) (r : List ByteArray) : Prop := ∃ n, main (R := AT × List Ob) G n a (fun r0 => some (.one (.l .s r0), [])) = some (.one (.l .s r), [])
theorem eq (G : Gs) (n : Nat) (a : List ByteArray) : den tb (orcOf (ents G)) (pc G n) an (bodyOf Try.f28) ⟨argsD 0 [.one (.l .s a)], []⟩ (atEnd (finF tb an [.tmp 2])) = main (R := AT × List Ob) G n a (fun r0 => some (.one (.l .s r0), [])) := by kernel_rfl
theorem ok {G : Gs} (hG : AllE Try.prog (ents G)) {g : List ByteArray → Option (List ByteArray)} (hg : ∀ a r, g a = some r → Does G a r) : EntOK Try.prog (ent g) := fun R xs H K r hc => by
  simp only [ent] at hc
  split at hc
  · rename_i a
    obtain ⟨r, q1, q2⟩ := bind_some hc
    obtain ⟨n, q3⟩ := hg a _ q1
    exact ⟨_, _, q2, fn_of_den (pc := pc G n) (an := an) (xs := [.one (.l .s a)]) (H := []) (fin := finF tb an [.tmp 2]) mixed tb_ok (orc_ok hG) (fn := Try.f28) (c := bodyOf Try.f28) Try.func28 (by kernel_rfl) (by kernel_rfl) (by kernel_rfl) (by kernel_rfl) (by kernel_rfl) (rs := [.tmp 2]) (by kernel_rfl) (.inl rfl) (allp hG n) ((eq G n a).trans q3)⟩
  · cases hc
end l_toStringS
namespace l_toSub
structure Gs where
  none_ : Unit
noncomputable def ents (_ : Gs) : List Ent := []
noncomputable def main {R : Type} (G : Gs) (n : Nat) (a : Sb) (K : Sb → Option R) : Option R :=
  K a
noncomputable def pc (_ : Gs) (_ : Nat) : Pcs := ⟨fun _ _ _ _ => none, fun _ _ _ _ => none, fun _ _ _ _ => none⟩
noncomputable def an : Ann := ⟨11, 0, [], [], [2], []⟩
theorem allp {G : Gs} (hG : AllE Try.prog (ents G)) (n : Nat) : AllP Try.prog an (pc G n) (pieces an (bodyOf Try.f44)) := by
    have h : pieces an (bodyOf Try.f44) = [] := by kernel_rfl
    rw [h]
    exact trivial
/-- What the function computes. -/
noncomputable def Does (G : Gs) (a : Sb) (r : Sb) : Prop := ∃ n, main (R := AT × List Ob) G n a (fun r0 => some (.agg [.i (Sb.low r0), .i (Sb.high r0)], [])) = some (.agg [.i (Sb.low r), .i (Sb.high r)], [])
theorem eq (G : Gs) (n : Nat) (a : Sb) : den tb (orcOf (ents G)) (pc G n) an (bodyOf Try.f44) ⟨argsD 0 [.agg [.i (Sb.low a), .i (Sb.high a)]], []⟩ (atEnd (finF tb an [.cell 2 81])) = main (R := AT × List Ob) G n a (fun r0 => some (.agg [.i (Sb.low r0), .i (Sb.high r0)], [])) := by kernel_rfl
theorem ok {G : Gs} (hG : AllE Try.prog (ents G)) {g : Sb → Option (Sb)} (hg : ∀ a r, g a = some r → Does G a r) : EntOK Try.prog (ent g) := fun R xs H K r hc => by
  simp only [ent] at hc
  split at hc
  · rename_i a a2
    obtain ⟨r, q1, q2⟩ := bind_some hc
    obtain ⟨n, q3⟩ := hg (Sb.mk a a2) _ q1
    exact ⟨_, _, q2, fn_of_den (pc := pc G n) (an := an) (xs := [.agg [.i a, .i a2]]) (H := []) (fin := finF tb an [.cell 2 81]) mixed tb_ok (orc_ok hG) (fn := Try.f44) (c := bodyOf Try.f44) Try.func44 (by kernel_rfl) (by kernel_rfl) (by kernel_rfl) (by kernel_rfl) (by kernel_rfl) (rs := [.cell 2 81]) (by kernel_rfl) (.inl rfl) (allp hG n) ((eq G n (Sb.mk a a2)).trans q3)⟩
  · cases hc
end l_toSub
namespace l_toSubS
structure Gs where
  l_toSub : Sb → Option (Sb)
noncomputable def ents (G : Gs) : List Ent := [l_toSub.ent G.l_toSub]
noncomputable def b3 {R : Type} (G : Gs) (n : Nat) (a : List Sb) (i : Int) (h0 : List Sb) (nx : List Sb → Int → List Sb → Option R) (k0 : List Sb → Option R) : Option R :=
  bif decide (i < (List.length a : Int)) then
    (
    Option.bind (ix a i) fun e =>
    Option.bind (G.l_toSub e) fun r =>
    Option.bind (ix h0 i) fun e2 =>
    nx a (wr (i + 1)) (List.set h0 (Int.toNat i) r)
    )
  else
    k0 h0
noncomputable def l3 {R : Type} (G : Gs) (n m : Nat) (a : List Sb) (i : Int) (h0 : List Sb) (k0 : List Sb → Option R) : Option R := iter (fun (v : List Sb × Int × List Sb) nx => b3 G n v.1 v.2.1 v.2.2 (fun y0 y1 y2 => nx (y0, y1, y2)) k0) m (a, i, h0)
noncomputable def main {R : Type} (G : Gs) (n : Nat) (a : List Sb) (K : List Sb → Option R) : Option R :=
  Option.bind (mk (α := Sb) (Sb.mk 0 0) (List.length a : Int)) fun xs =>
  l3 G n n a 0 xs
    (fun h0 => K h0)
noncomputable def dl3 (G : Gs) (n m : Nat) (R : Type) (st : St) (K : Kt R) : Option R := match st with
  | ⟨[(0, .one (.l (.n 5) a)), (3, .one (.o 0)), (4, .one (.i i))], [.row (.n 5) 0 h0]⟩ => l3 G n m a i h0 (fun h0 => K (.exit 0) ⟨[(3, .one (.o 0))], [.row (.n 5) 0 h0]⟩)
  | _ => none
noncomputable def pc (G : Gs) (n : Nat) : Pcs := ⟨fun R id st K => bif Nat.beq id 3 then dl3 G n n R st K else none, fun _ _ _ _ => none, fun _ _ _ _ => none⟩
noncomputable def an : Ann := ⟨23, 0, [(3, [0, 3, 4])], [], [2], []⟩
theorem s3 (G : Gs) (n m : Nat) (R : Type) (a : List Sb) (i : Int) (h0 : List Sb) (K : Kt R) : den tb (orcOf (ents G)) (pc G n) an (nthC [1, 1, 0, 1, 0, 0] (bodyOf Try.f29)) ⟨[(0, .one (.l (.n 5) a)), (3, .one (.o 0)), (4, .one (.i i))], [.row (.n 5) 0 h0]⟩ (roundK an.refs [0, 3, 4] ⟨[3], [2], [(0, [3])]⟩ (fun st => dl3 G n m R st K) K) = dl3 G n (m + 1) R ⟨[(0, .one (.l (.n 5) a)), (3, .one (.o 0)), (4, .one (.i i))], [.row (.n 5) 0 h0]⟩ K := by kernel_rfl
theorem pl3 {G : Gs} (hG : AllE Try.prog (ents G)) (n : Nat) : ∀ m, PieceOK Try.prog an (.loop (nthC [1, 1, 0, 1, 0, 0] (bodyOf Try.f29))) (dl3 G n m) := by
  refine loop_piece mixed tb_ok (orc_ok hG) (pc := pc G n) (lv := [0, 3, 4]) (o := ⟨[3], [2], [(0, [3])]⟩) (by
    have h : pieces an (nthC [1, 1, 0, 1, 0, 0] (bodyOf Try.f29)) = [] := by kernel_rfl
    rw [h]
    exact trivial) (fun R st K => ?_) (fun m R st K r h => ?_)
  · unfold dl3; split <;> rfl
  · have e := h
    unfold dl3 at e
    split at e
    · rename_i x0 x1 x2; exact (s3 G n m R x0 x1 x2 K).trans h
    · cases e
theorem allp {G : Gs} (hG : AllE Try.prog (ents G)) (n : Nat) : AllP Try.prog an (pc G n) (pieces an (bodyOf Try.f29)) := by
    have h : pieces an (bodyOf Try.f29) = [(1, 3, .loop (nthC [1, 1, 0, 1, 0, 0] (bodyOf Try.f29)))] := by kernel_rfl
    rw [h]
    exact ⟨pl3 hG n n, trivial⟩
/-- What the function computes. -/
noncomputable def Does (G : Gs) (a : List Sb) (r : List Sb) : Prop := ∃ n, main (R := AT × List Ob) G n a (fun r0 => some (.one (.l (.n 5) r0), [])) = some (.one (.l (.n 5) r), [])
theorem eq (G : Gs) (n : Nat) (a : List Sb) : den tb (orcOf (ents G)) (pc G n) an (bodyOf Try.f29) ⟨argsD 0 [.one (.l (.n 5) a)], []⟩ (atEnd (finF tb an [.tmp 2])) = main (R := AT × List Ob) G n a (fun r0 => some (.one (.l (.n 5) r0), [])) := by kernel_rfl
theorem ok {G : Gs} (hG : AllE Try.prog (ents G)) {g : List Sb → Option (List Sb)} (hg : ∀ a r, g a = some r → Does G a r) : EntOK Try.prog (ent g) := fun R xs H K r hc => by
  simp only [ent] at hc
  split at hc
  · rename_i a
    obtain ⟨r, q1, q2⟩ := bind_some hc
    obtain ⟨n, q3⟩ := hg a _ q1
    exact ⟨_, _, q2, fn_of_den (pc := pc G n) (an := an) (xs := [.one (.l (.n 5) a)]) (H := []) (fin := finF tb an [.tmp 2]) mixed tb_ok (orc_ok hG) (fn := Try.f29) (c := bodyOf Try.f29) Try.func29 (by kernel_rfl) (by kernel_rfl) (by kernel_rfl) (by kernel_rfl) (by kernel_rfl) (rs := [.tmp 2]) (by kernel_rfl) (.inl rfl) (allp hG n) ((eq G n a).trans q3)⟩
  · cases hc
end l_toSubS
namespace l_toDecl
structure Gs where
  l_toIntS : List Int → Option (List Int)
noncomputable def ents (G : Gs) : List Ent := [l_toIntS.ent G.l_toIntS]
noncomputable def main {R : Type} (G : Gs) (n : Nat) (a : Dc) (K : Dc → Option R) : Option R :=
  Option.bind (G.l_toIntS (Dc.args a)) fun r =>
  K (Dc.mk r (Dc.result a))
noncomputable def pc (_ : Gs) (_ : Nat) : Pcs := ⟨fun _ _ _ _ => none, fun _ _ _ _ => none, fun _ _ _ _ => none⟩
noncomputable def an : Ann := ⟨12, 0, [], [], [2], []⟩
theorem allp {G : Gs} (hG : AllE Try.prog (ents G)) (n : Nat) : AllP Try.prog an (pc G n) (pieces an (bodyOf Try.f56)) := by
    have h : pieces an (bodyOf Try.f56) = [] := by kernel_rfl
    rw [h]
    exact trivial
/-- What the function computes. -/
noncomputable def Does (G : Gs) (a : Dc) (r : Dc) : Prop := ∃ n, main (R := AT × List Ob) G n a (fun r0 => some (.agg [.l .i (Dc.args r0), .i (Dc.result r0)], [])) = some (.agg [.l .i (Dc.args r), .i (Dc.result r)], [])
theorem eq (G : Gs) (n : Nat) (a : Dc) : den tb (orcOf (ents G)) (pc G n) an (bodyOf Try.f56) ⟨argsD 0 [.agg [.l .i (Dc.args a), .i (Dc.result a)]], []⟩ (atEnd (finF tb an [.cell 2 85])) = main (R := AT × List Ob) G n a (fun r0 => some (.agg [.l .i (Dc.args r0), .i (Dc.result r0)], [])) := by kernel_rfl
theorem ok {G : Gs} (hG : AllE Try.prog (ents G)) {g : Dc → Option (Dc)} (hg : ∀ a r, g a = some r → Does G a r) : EntOK Try.prog (ent g) := fun R xs H K r hc => by
  simp only [ent] at hc
  split at hc
  · rename_i a a2
    obtain ⟨r, q1, q2⟩ := bind_some hc
    obtain ⟨n, q3⟩ := hg (Dc.mk a a2) _ q1
    exact ⟨_, _, q2, fn_of_den (pc := pc G n) (an := an) (xs := [.agg [.l .i a, .i a2]]) (H := []) (fin := finF tb an [.cell 2 85]) mixed tb_ok (orc_ok hG) (fn := Try.f56) (c := bodyOf Try.f56) Try.func56 (by kernel_rfl) (by kernel_rfl) (by kernel_rfl) (by kernel_rfl) (by kernel_rfl) (rs := [.cell 2 85]) (by kernel_rfl) (.inl rfl) (allp hG n) ((eq G n (Dc.mk a a2)).trans q3)⟩
  · cases hc
end l_toDecl
namespace l_toDeclS
structure Gs where
  l_toDecl : Dc → Option (Dc)
noncomputable def ents (G : Gs) : List Ent := [l_toDecl.ent G.l_toDecl]
noncomputable def b3 {R : Type} (G : Gs) (n : Nat) (a : List Dc) (i : Int) (h0 : List Dc) (nx : List Dc → Int → List Dc → Option R) (k0 : List Dc → Option R) : Option R :=
  bif decide (i < (List.length a : Int)) then
    (
    Option.bind (ix a i) fun e =>
    Option.bind (G.l_toDecl e) fun r =>
    Option.bind (ix h0 i) fun e2 =>
    nx a (wr (i + 1)) (List.set h0 (Int.toNat i) r)
    )
  else
    k0 h0
noncomputable def l3 {R : Type} (G : Gs) (n m : Nat) (a : List Dc) (i : Int) (h0 : List Dc) (k0 : List Dc → Option R) : Option R := iter (fun (v : List Dc × Int × List Dc) nx => b3 G n v.1 v.2.1 v.2.2 (fun y0 y1 y2 => nx (y0, y1, y2)) k0) m (a, i, h0)
noncomputable def main {R : Type} (G : Gs) (n : Nat) (a : List Dc) (K : List Dc → Option R) : Option R :=
  Option.bind (mk (α := Dc) (Dc.mk [] 0) (List.length a : Int)) fun xs =>
  l3 G n n a 0 xs
    (fun h0 => K h0)
noncomputable def dl3 (G : Gs) (n m : Nat) (R : Type) (st : St) (K : Kt R) : Option R := match st with
  | ⟨[(0, .one (.l (.n 7) a)), (3, .one (.o 0)), (4, .one (.i i))], [.row (.n 7) 0 h0]⟩ => l3 G n m a i h0 (fun h0 => K (.exit 0) ⟨[(3, .one (.o 0))], [.row (.n 7) 0 h0]⟩)
  | _ => none
noncomputable def pc (G : Gs) (n : Nat) : Pcs := ⟨fun R id st K => bif Nat.beq id 3 then dl3 G n n R st K else none, fun _ _ _ _ => none, fun _ _ _ _ => none⟩
noncomputable def an : Ann := ⟨23, 0, [(3, [0, 3, 4])], [], [2], []⟩
theorem s3 (G : Gs) (n m : Nat) (R : Type) (a : List Dc) (i : Int) (h0 : List Dc) (K : Kt R) : den tb (orcOf (ents G)) (pc G n) an (nthC [1, 1, 0, 1, 0, 0] (bodyOf Try.f45)) ⟨[(0, .one (.l (.n 7) a)), (3, .one (.o 0)), (4, .one (.i i))], [.row (.n 7) 0 h0]⟩ (roundK an.refs [0, 3, 4] ⟨[3], [2], [(0, [3])]⟩ (fun st => dl3 G n m R st K) K) = dl3 G n (m + 1) R ⟨[(0, .one (.l (.n 7) a)), (3, .one (.o 0)), (4, .one (.i i))], [.row (.n 7) 0 h0]⟩ K := by kernel_rfl
theorem pl3 {G : Gs} (hG : AllE Try.prog (ents G)) (n : Nat) : ∀ m, PieceOK Try.prog an (.loop (nthC [1, 1, 0, 1, 0, 0] (bodyOf Try.f45))) (dl3 G n m) := by
  refine loop_piece mixed tb_ok (orc_ok hG) (pc := pc G n) (lv := [0, 3, 4]) (o := ⟨[3], [2], [(0, [3])]⟩) (by
    have h : pieces an (nthC [1, 1, 0, 1, 0, 0] (bodyOf Try.f45)) = [] := by kernel_rfl
    rw [h]
    exact trivial) (fun R st K => ?_) (fun m R st K r h => ?_)
  · unfold dl3; split <;> rfl
  · have e := h
    unfold dl3 at e
    split at e
    · rename_i x0 x1 x2; exact (s3 G n m R x0 x1 x2 K).trans h
    · cases e
theorem allp {G : Gs} (hG : AllE Try.prog (ents G)) (n : Nat) : AllP Try.prog an (pc G n) (pieces an (bodyOf Try.f45)) := by
    have h : pieces an (bodyOf Try.f45) = [(1, 3, .loop (nthC [1, 1, 0, 1, 0, 0] (bodyOf Try.f45)))] := by kernel_rfl
    rw [h]
    exact ⟨pl3 hG n n, trivial⟩
/-- What the function computes. -/
noncomputable def Does (G : Gs) (a : List Dc) (r : List Dc) : Prop := ∃ n, main (R := AT × List Ob) G n a (fun r0 => some (.one (.l (.n 7) r0), [])) = some (.one (.l (.n 7) r), [])
theorem eq (G : Gs) (n : Nat) (a : List Dc) : den tb (orcOf (ents G)) (pc G n) an (bodyOf Try.f45) ⟨argsD 0 [.one (.l (.n 7) a)], []⟩ (atEnd (finF tb an [.tmp 2])) = main (R := AT × List Ob) G n a (fun r0 => some (.one (.l (.n 7) r0), [])) := by kernel_rfl
theorem ok {G : Gs} (hG : AllE Try.prog (ents G)) {g : List Dc → Option (List Dc)} (hg : ∀ a r, g a = some r → Does G a r) : EntOK Try.prog (ent g) := fun R xs H K r hc => by
  simp only [ent] at hc
  split at hc
  · rename_i a
    obtain ⟨r, q1, q2⟩ := bind_some hc
    obtain ⟨n, q3⟩ := hg a _ q1
    exact ⟨_, _, q2, fn_of_den (pc := pc G n) (an := an) (xs := [.one (.l (.n 7) a)]) (H := []) (fin := finF tb an [.tmp 2]) mixed tb_ok (orc_ok hG) (fn := Try.f45) (c := bodyOf Try.f45) Try.func45 (by kernel_rfl) (by kernel_rfl) (by kernel_rfl) (by kernel_rfl) (by kernel_rfl) (rs := [.tmp 2]) (by kernel_rfl) (.inl rfl) (allp hG n) ((eq G n a).trans q3)⟩
  · cases hc
end l_toDeclS
namespace l_toOp
structure Gs where
  l_toDeclS : List Dc → Option (List Dc)
noncomputable def ents (G : Gs) : List Ent := [l_toDeclS.ent G.l_toDeclS]
noncomputable def main {R : Type} (G : Gs) (n : Nat) (a : Opr) (K : Opr → Option R) : Option R :=
  Option.bind (G.l_toDeclS (Opr.decls a)) fun r =>
  K (Opr.mk (Opr.name a) r (Opr.assoc a) (Opr.comm a) (Opr.unit a))
noncomputable def pc (_ : Gs) (_ : Nat) : Pcs := ⟨fun _ _ _ _ => none, fun _ _ _ _ => none, fun _ _ _ _ => none⟩
noncomputable def an : Ann := ⟨21, 0, [], [], [2], []⟩
theorem allp {G : Gs} (hG : AllE Try.prog (ents G)) (n : Nat) : AllP Try.prog an (pc G n) (pieces an (bodyOf Try.f30)) := by
    have h : pieces an (bodyOf Try.f30) = [] := by kernel_rfl
    rw [h]
    exact trivial
/-- What the function computes. -/
noncomputable def Does (G : Gs) (a : Opr) (r : Opr) : Prop := ∃ n, main (R := AT × List Ob) G n a (fun r0 => some (.agg [.s (Opr.name r0), .l (.n 7) (Opr.decls r0), .b (Opr.assoc r0), .b (Opr.comm r0), .i (Opr.unit r0)], [])) = some (.agg [.s (Opr.name r), .l (.n 7) (Opr.decls r), .b (Opr.assoc r), .b (Opr.comm r), .i (Opr.unit r)], [])
theorem eq (G : Gs) (n : Nat) (a : Opr) : den tb (orcOf (ents G)) (pc G n) an (bodyOf Try.f30) ⟨argsD 0 [.agg [.s (Opr.name a), .l (.n 7) (Opr.decls a), .b (Opr.assoc a), .b (Opr.comm a), .i (Opr.unit a)]], []⟩ (atEnd (finF tb an [.cell 2 49])) = main (R := AT × List Ob) G n a (fun r0 => some (.agg [.s (Opr.name r0), .l (.n 7) (Opr.decls r0), .b (Opr.assoc r0), .b (Opr.comm r0), .i (Opr.unit r0)], [])) := by kernel_rfl
theorem ok {G : Gs} (hG : AllE Try.prog (ents G)) {g : Opr → Option (Opr)} (hg : ∀ a r, g a = some r → Does G a r) : EntOK Try.prog (ent g) := fun R xs H K r hc => by
  simp only [ent] at hc
  split at hc
  · rename_i a a2 a3 a4 a5
    obtain ⟨r, q1, q2⟩ := bind_some hc
    obtain ⟨n, q3⟩ := hg (Opr.mk a a2 a3 a4 a5) _ q1
    exact ⟨_, _, q2, fn_of_den (pc := pc G n) (an := an) (xs := [.agg [.s a, .l (.n 7) a2, .b a3, .b a4, .i a5]]) (H := []) (fin := finF tb an [.cell 2 49]) mixed tb_ok (orc_ok hG) (fn := Try.f30) (c := bodyOf Try.f30) Try.func30 (by kernel_rfl) (by kernel_rfl) (by kernel_rfl) (by kernel_rfl) (by kernel_rfl) (rs := [.cell 2 49]) (by kernel_rfl) (.inl rfl) (allp hG n) ((eq G n (Opr.mk a a2 a3 a4 a5)).trans q3)⟩
  · cases hc
end l_toOp
namespace l_toOpS
structure Gs where
  l_toOp : Opr → Option (Opr)
noncomputable def ents (G : Gs) : List Ent := [l_toOp.ent G.l_toOp]
noncomputable def b3 {R : Type} (G : Gs) (n : Nat) (a : List Opr) (i : Int) (h0 : List Opr) (nx : List Opr → Int → List Opr → Option R) (k0 : List Opr → Option R) : Option R :=
  bif decide (i < (List.length a : Int)) then
    (
    Option.bind (ix a i) fun e =>
    Option.bind (G.l_toOp e) fun r =>
    Option.bind (ix h0 i) fun e2 =>
    nx a (wr (i + 1)) (List.set h0 (Int.toNat i) r)
    )
  else
    k0 h0
noncomputable def l3 {R : Type} (G : Gs) (n m : Nat) (a : List Opr) (i : Int) (h0 : List Opr) (k0 : List Opr → Option R) : Option R := iter (fun (v : List Opr × Int × List Opr) nx => b3 G n v.1 v.2.1 v.2.2 (fun y0 y1 y2 => nx (y0, y1, y2)) k0) m (a, i, h0)
noncomputable def main {R : Type} (G : Gs) (n : Nat) (a : List Opr) (K : List Opr → Option R) : Option R :=
  Option.bind (mk (α := Opr) (Opr.mk ByteArray.empty [] false false 0) (List.length a : Int)) fun xs =>
  l3 G n n a 0 xs
    (fun h0 => K h0)
noncomputable def dl3 (G : Gs) (n m : Nat) (R : Type) (st : St) (K : Kt R) : Option R := match st with
  | ⟨[(0, .one (.l (.n 8) a)), (3, .one (.o 0)), (4, .one (.i i))], [.row (.n 8) 0 h0]⟩ => l3 G n m a i h0 (fun h0 => K (.exit 0) ⟨[(3, .one (.o 0))], [.row (.n 8) 0 h0]⟩)
  | _ => none
noncomputable def pc (G : Gs) (n : Nat) : Pcs := ⟨fun R id st K => bif Nat.beq id 3 then dl3 G n n R st K else none, fun _ _ _ _ => none, fun _ _ _ _ => none⟩
noncomputable def an : Ann := ⟨23, 0, [(3, [0, 3, 4])], [], [2], []⟩
theorem s3 (G : Gs) (n m : Nat) (R : Type) (a : List Opr) (i : Int) (h0 : List Opr) (K : Kt R) : den tb (orcOf (ents G)) (pc G n) an (nthC [1, 1, 0, 1, 0, 0] (bodyOf Try.f16)) ⟨[(0, .one (.l (.n 8) a)), (3, .one (.o 0)), (4, .one (.i i))], [.row (.n 8) 0 h0]⟩ (roundK an.refs [0, 3, 4] ⟨[3], [2], [(0, [3])]⟩ (fun st => dl3 G n m R st K) K) = dl3 G n (m + 1) R ⟨[(0, .one (.l (.n 8) a)), (3, .one (.o 0)), (4, .one (.i i))], [.row (.n 8) 0 h0]⟩ K := by kernel_rfl
theorem pl3 {G : Gs} (hG : AllE Try.prog (ents G)) (n : Nat) : ∀ m, PieceOK Try.prog an (.loop (nthC [1, 1, 0, 1, 0, 0] (bodyOf Try.f16))) (dl3 G n m) := by
  refine loop_piece mixed tb_ok (orc_ok hG) (pc := pc G n) (lv := [0, 3, 4]) (o := ⟨[3], [2], [(0, [3])]⟩) (by
    have h : pieces an (nthC [1, 1, 0, 1, 0, 0] (bodyOf Try.f16)) = [] := by kernel_rfl
    rw [h]
    exact trivial) (fun R st K => ?_) (fun m R st K r h => ?_)
  · unfold dl3; split <;> rfl
  · have e := h
    unfold dl3 at e
    split at e
    · rename_i x0 x1 x2; exact (s3 G n m R x0 x1 x2 K).trans h
    · cases e
theorem allp {G : Gs} (hG : AllE Try.prog (ents G)) (n : Nat) : AllP Try.prog an (pc G n) (pieces an (bodyOf Try.f16)) := by
    have h : pieces an (bodyOf Try.f16) = [(1, 3, .loop (nthC [1, 1, 0, 1, 0, 0] (bodyOf Try.f16)))] := by kernel_rfl
    rw [h]
    exact ⟨pl3 hG n n, trivial⟩
/-- What the function computes. -/
noncomputable def Does (G : Gs) (a : List Opr) (r : List Opr) : Prop := ∃ n, main (R := AT × List Ob) G n a (fun r0 => some (.one (.l (.n 8) r0), [])) = some (.one (.l (.n 8) r), [])
theorem eq (G : Gs) (n : Nat) (a : List Opr) : den tb (orcOf (ents G)) (pc G n) an (bodyOf Try.f16) ⟨argsD 0 [.one (.l (.n 8) a)], []⟩ (atEnd (finF tb an [.tmp 2])) = main (R := AT × List Ob) G n a (fun r0 => some (.one (.l (.n 8) r0), [])) := by kernel_rfl
theorem ok {G : Gs} (hG : AllE Try.prog (ents G)) {g : List Opr → Option (List Opr)} (hg : ∀ a r, g a = some r → Does G a r) : EntOK Try.prog (ent g) := fun R xs H K r hc => by
  simp only [ent] at hc
  split at hc
  · rename_i a
    obtain ⟨r, q1, q2⟩ := bind_some hc
    obtain ⟨n, q3⟩ := hg a _ q1
    exact ⟨_, _, q2, fn_of_den (pc := pc G n) (an := an) (xs := [.one (.l (.n 8) a)]) (H := []) (fin := finF tb an [.tmp 2]) mixed tb_ok (orc_ok hG) (fn := Try.f16) (c := bodyOf Try.f16) Try.func16 (by kernel_rfl) (by kernel_rfl) (by kernel_rfl) (by kernel_rfl) (by kernel_rfl) (rs := [.tmp 2]) (by kernel_rfl) (.inl rfl) (allp hG n) ((eq G n a).trans q3)⟩
  · cases hc
end l_toOpS
namespace l_toSorts
structure Gs where
  l_toStringS : List ByteArray → Option (List ByteArray)
  l_toSubS : List Sb → Option (List Sb)
noncomputable def ents (G : Gs) : List Ent := [l_toStringS.ent G.l_toStringS, l_toSubS.ent G.l_toSubS]
noncomputable def main {R : Type} (G : Gs) (n : Nat) (a : So) (K : So → Option R) : Option R :=
  Option.bind (G.l_toStringS (So.names a)) fun r =>
  Option.bind (G.l_toSubS (So.subs a)) fun r2 =>
  K (So.mk r r2)
noncomputable def pc (_ : Gs) (_ : Nat) : Pcs := ⟨fun _ _ _ _ => none, fun _ _ _ _ => none, fun _ _ _ _ => none⟩
noncomputable def an : Ann := ⟨13, 0, [], [], [2], []⟩
theorem allp {G : Gs} (hG : AllE Try.prog (ents G)) (n : Nat) : AllP Try.prog an (pc G n) (pieces an (bodyOf Try.f15)) := by
    have h : pieces an (bodyOf Try.f15) = [] := by kernel_rfl
    rw [h]
    exact trivial
/-- What the function computes. -/
noncomputable def Does (G : Gs) (a : So) (r : So) : Prop := ∃ n, main (R := AT × List Ob) G n a (fun r0 => some (.agg [.l .s (So.names r0), .l (.n 5) (So.subs r0)], [])) = some (.agg [.l .s (So.names r), .l (.n 5) (So.subs r)], [])
theorem eq (G : Gs) (n : Nat) (a : So) : den tb (orcOf (ents G)) (pc G n) an (bodyOf Try.f15) ⟨argsD 0 [.agg [.l .s (So.names a), .l (.n 5) (So.subs a)]], []⟩ (atEnd (finF tb an [.cell 2 34])) = main (R := AT × List Ob) G n a (fun r0 => some (.agg [.l .s (So.names r0), .l (.n 5) (So.subs r0)], [])) := by kernel_rfl
theorem ok {G : Gs} (hG : AllE Try.prog (ents G)) {g : So → Option (So)} (hg : ∀ a r, g a = some r → Does G a r) : EntOK Try.prog (ent g) := fun R xs H K r hc => by
  simp only [ent] at hc
  split at hc
  · rename_i a a2
    obtain ⟨r, q1, q2⟩ := bind_some hc
    obtain ⟨n, q3⟩ := hg (So.mk a a2) _ q1
    exact ⟨_, _, q2, fn_of_den (pc := pc G n) (an := an) (xs := [.agg [.l .s a, .l (.n 5) a2]]) (H := []) (fin := finF tb an [.cell 2 34]) mixed tb_ok (orc_ok hG) (fn := Try.f15) (c := bodyOf Try.f15) Try.func15 (by kernel_rfl) (by kernel_rfl) (by kernel_rfl) (by kernel_rfl) (by kernel_rfl) (rs := [.cell 2 34]) (by kernel_rfl) (.inl rfl) (allp hG n) ((eq G n (So.mk a a2)).trans q3)⟩
  · cases hc
end l_toSorts
namespace l_toSignature
structure Gs where
  l_toSorts : So → Option (So)
  l_toOpS : List Opr → Option (List Opr)
noncomputable def ents (G : Gs) : List Ent := [l_toSorts.ent G.l_toSorts, l_toOpS.ent G.l_toOpS]
noncomputable def main {R : Type} (G : Gs) (n : Nat) (a : Sg) (K : Sg → Option R) : Option R :=
  Option.bind (G.l_toSorts (Sg.sorts a)) fun r =>
  Option.bind (G.l_toOpS (Sg.ops a)) fun r2 =>
  K (Sg.mk r r2)
noncomputable def pc (_ : Gs) (_ : Nat) : Pcs := ⟨fun _ _ _ _ => none, fun _ _ _ _ => none, fun _ _ _ _ => none⟩
noncomputable def an : Ann := ⟨13, 0, [], [], [2], []⟩
theorem allp {G : Gs} (hG : AllE Try.prog (ents G)) (n : Nat) : AllP Try.prog an (pc G n) (pieces an (bodyOf Try.f6)) := by
    have h : pieces an (bodyOf Try.f6) = [] := by kernel_rfl
    rw [h]
    exact trivial
/-- What the function computes. -/
noncomputable def Does (G : Gs) (a : Sg) (r : Sg) : Prop := ∃ n, main (R := AT × List Ob) G n a (fun r0 => some (.agg [.l .s (So.names (Sg.sorts r0)), .l (.n 5) (So.subs (Sg.sorts r0)), .l (.n 8) (Sg.ops r0)], [])) = some (.agg [.l .s (So.names (Sg.sorts r)), .l (.n 5) (So.subs (Sg.sorts r)), .l (.n 8) (Sg.ops r)], [])
theorem eq (G : Gs) (n : Nat) (a : Sg) : den tb (orcOf (ents G)) (pc G n) an (bodyOf Try.f6) ⟨argsD 0 [.agg [.l .s (So.names (Sg.sorts a)), .l (.n 5) (So.subs (Sg.sorts a)), .l (.n 8) (Sg.ops a)]], []⟩ (atEnd (finF tb an [.cell 2 37])) = main (R := AT × List Ob) G n a (fun r0 => some (.agg [.l .s (So.names (Sg.sorts r0)), .l (.n 5) (So.subs (Sg.sorts r0)), .l (.n 8) (Sg.ops r0)], [])) := by kernel_rfl
theorem ok {G : Gs} (hG : AllE Try.prog (ents G)) {g : Sg → Option (Sg)} (hg : ∀ a r, g a = some r → Does G a r) : EntOK Try.prog (ent g) := fun R xs H K r hc => by
  simp only [ent] at hc
  split at hc
  · rename_i a a2 a3
    obtain ⟨r, q1, q2⟩ := bind_some hc
    obtain ⟨n, q3⟩ := hg (Sg.mk (So.mk a a2) a3) _ q1
    exact ⟨_, _, q2, fn_of_den (pc := pc G n) (an := an) (xs := [.agg [.l .s a, .l (.n 5) a2, .l (.n 8) a3]]) (H := []) (fin := finF tb an [.cell 2 37]) mixed tb_ok (orc_ok hG) (fn := Try.f6) (c := bodyOf Try.f6) Try.func6 (by kernel_rfl) (by kernel_rfl) (by kernel_rfl) (by kernel_rfl) (by kernel_rfl) (rs := [.cell 2 37]) (by kernel_rfl) (.inl rfl) (allp hG n) ((eq G n (Sg.mk (So.mk a a2) a3)).trans q3)⟩
  · cases hc
end l_toSignature
namespace l_szIntS
structure Gs where
  none_ : Unit
noncomputable def ents (_ : Gs) : List Ent := []
noncomputable def main {R : Type} (G : Gs) (n : Nat) (a : List Int) (left : Int) (K : Int → Option R) : Option R :=
  bif decide ((wr (left - (List.length a : Int))) < 0) then
    (K (-1))
  else
    K (wr (left - (List.length a : Int)))
noncomputable def pc (_ : Gs) (_ : Nat) : Pcs := ⟨fun _ _ _ _ => none, fun _ _ _ _ => none, fun _ _ _ _ => none⟩
noncomputable def an : Ann := ⟨12, 0, [], [], [4], []⟩
theorem allp {G : Gs} (hG : AllE Try.prog (ents G)) (n : Nat) : AllP Try.prog an (pc G n) (pieces an (bodyOf Try.f59)) := by
    have h : pieces an (bodyOf Try.f59) = [] := by kernel_rfl
    rw [h]
    exact trivial
/-- What the function computes. -/
noncomputable def Does (G : Gs) (a : List Int) (left : Int) (r : Int) : Prop := ∃ n, main (R := AT × List Ob) G n a left (fun r0 => some (.one (.i r0), [])) = some (.one (.i r), [])
theorem eq (G : Gs) (n : Nat) (a : List Int) (left : Int) : den tb (orcOf (ents G)) (pc G n) an (bodyOf Try.f59) ⟨argsD 0 [.one (.l .i a), .one (.i left)], []⟩ (atEnd (finF tb an [.tmp 4])) = main (R := AT × List Ob) G n a left (fun r0 => some (.one (.i r0), [])) := by kernel_rfl
theorem ok {G : Gs} (hG : AllE Try.prog (ents G)) {g : List Int → Int → Option (Int)} (hg : ∀ a left r, g a left = some r → Does G a left r) : EntOK Try.prog (ent g) := fun R xs H K r hc => by
  simp only [ent] at hc
  split at hc
  · rename_i a a2
    obtain ⟨r, q1, q2⟩ := bind_some hc
    obtain ⟨n, q3⟩ := hg a a2 _ q1
    exact ⟨_, _, q2, fn_of_den (pc := pc G n) (an := an) (xs := [.one (.l .i a), .one (.i a2)]) (H := []) (fin := finF tb an [.tmp 4]) mixed tb_ok (orc_ok hG) (fn := Try.f59) (c := bodyOf Try.f59) Try.func59 (by kernel_rfl) (by kernel_rfl) (by kernel_rfl) (by kernel_rfl) (by kernel_rfl) (rs := [.tmp 4]) (by kernel_rfl) (.inl rfl) (allp hG n) ((eq G n a a2).trans q3)⟩
  · cases hc
end l_szIntS
namespace l_szStringS
structure Gs where
  none_ : Unit
noncomputable def ents (_ : Gs) : List Ent := []
noncomputable def b5 {R : Type} (G : Gs) (n : Nat) (a : List ByteArray) (left : Int) (i : Int) (nx : List ByteArray → Int → Int → Option R) (k0 : Int → Option R) (k1 : Int → Option R) : Option R :=
  bif decide (i < (List.length a : Int)) then
    (
    Option.bind (ix a i) fun e =>
    bif decide ((wr (left - (ByteArray.size e : Int))) < 0) then
      (k0 (-1))
    else
      nx a (wr (left - (ByteArray.size e : Int))) (wr (i + 1))
    )
  else
    k1 left
noncomputable def l5 {R : Type} (G : Gs) (n m : Nat) (a : List ByteArray) (left : Int) (i : Int) (k0 : Int → Option R) (k1 : Int → Option R) : Option R := iter (fun (v : List ByteArray × Int × Int) nx => b5 G n v.1 v.2.1 v.2.2 (fun y0 y1 y2 => nx (y0, y1, y2)) k0 k1) m (a, left, i)
noncomputable def main {R : Type} (G : Gs) (n : Nat) (a : List ByteArray) (left : Int) (K : Int → Option R) : Option R :=
  bif decide ((wr (left - (List.length a : Int))) < 0) then
    (K (-1))
  else
    l5 G n n a (wr (left - (List.length a : Int))) 0
      (fun t4 => K t4)
      (fun left2 => K left2)
noncomputable def dl5 (G : Gs) (n m : Nat) (R : Type) (st : St) (K : Kt R) : Option R := match st with
  | ⟨[(0, .one (.l .s a)), (1, .one (.i left)), (5, .one (.i i))], []⟩ => l5 G n m a left i (fun t4 => K .ret ⟨[(4, .one (.i t4))], []⟩) (fun left => K (.exit 0) ⟨[(1, .one (.i left))], []⟩)
  | _ => none
noncomputable def pc (G : Gs) (n : Nat) : Pcs := ⟨fun R id st K => bif Nat.beq id 5 then dl5 G n n R st K else none, fun _ _ _ _ => none, fun _ _ _ _ => none⟩
noncomputable def an : Ann := ⟨28, 0, [(5, [0, 1, 5])], [], [4], []⟩
theorem s5 (G : Gs) (n m : Nat) (R : Type) (a : List ByteArray) (left : Int) (i : Int) (K : Kt R) : den tb (orcOf (ents G)) (pc G n) an (nthC [1, 1, 1, 0, 1, 0, 0] (bodyOf Try.f21)) ⟨[(0, .one (.l .s a)), (1, .one (.i left)), (5, .one (.i i))], []⟩ (roundK an.refs [0, 1, 5] ⟨[1], [4], [(0, [1])]⟩ (fun st => dl5 G n m R st K) K) = dl5 G n (m + 1) R ⟨[(0, .one (.l .s a)), (1, .one (.i left)), (5, .one (.i i))], []⟩ K := by kernel_rfl
theorem pl5 {G : Gs} (hG : AllE Try.prog (ents G)) (n : Nat) : ∀ m, PieceOK Try.prog an (.loop (nthC [1, 1, 1, 0, 1, 0, 0] (bodyOf Try.f21))) (dl5 G n m) := by
  refine loop_piece mixed tb_ok (orc_ok hG) (pc := pc G n) (lv := [0, 1, 5]) (o := ⟨[1], [4], [(0, [1])]⟩) (by
    have h : pieces an (nthC [1, 1, 1, 0, 1, 0, 0] (bodyOf Try.f21)) = [] := by kernel_rfl
    rw [h]
    exact trivial) (fun R st K => ?_) (fun m R st K r h => ?_)
  · unfold dl5; split <;> rfl
  · have e := h
    unfold dl5 at e
    split at e
    · rename_i x0 x1 x2; exact (s5 G n m R x0 x1 x2 K).trans h
    · cases e
theorem allp {G : Gs} (hG : AllE Try.prog (ents G)) (n : Nat) : AllP Try.prog an (pc G n) (pieces an (bodyOf Try.f21)) := by
    have h : pieces an (bodyOf Try.f21) = [(1, 5, .loop (nthC [1, 1, 1, 0, 1, 0, 0] (bodyOf Try.f21)))] := by kernel_rfl
    rw [h]
    exact ⟨pl5 hG n n, trivial⟩
/-- What the function computes. -/
noncomputable def Does (G : Gs) (a : List ByteArray) (left : Int) (r : Int) : Prop := ∃ n, main (R := AT × List Ob) G n a left (fun r0 => some (.one (.i r0), [])) = some (.one (.i r), [])
theorem eq (G : Gs) (n : Nat) (a : List ByteArray) (left : Int) : den tb (orcOf (ents G)) (pc G n) an (bodyOf Try.f21) ⟨argsD 0 [.one (.l .s a), .one (.i left)], []⟩ (atEnd (finF tb an [.tmp 4])) = main (R := AT × List Ob) G n a left (fun r0 => some (.one (.i r0), [])) := by kernel_rfl
theorem ok {G : Gs} (hG : AllE Try.prog (ents G)) {g : List ByteArray → Int → Option (Int)} (hg : ∀ a left r, g a left = some r → Does G a left r) : EntOK Try.prog (ent g) := fun R xs H K r hc => by
  simp only [ent] at hc
  split at hc
  · rename_i a a2
    obtain ⟨r, q1, q2⟩ := bind_some hc
    obtain ⟨n, q3⟩ := hg a a2 _ q1
    exact ⟨_, _, q2, fn_of_den (pc := pc G n) (an := an) (xs := [.one (.l .s a), .one (.i a2)]) (H := []) (fin := finF tb an [.tmp 4]) mixed tb_ok (orc_ok hG) (fn := Try.f21) (c := bodyOf Try.f21) Try.func21 (by kernel_rfl) (by kernel_rfl) (by kernel_rfl) (by kernel_rfl) (by kernel_rfl) (rs := [.tmp 4]) (by kernel_rfl) (.inl rfl) (allp hG n) ((eq G n a a2).trans q3)⟩
  · cases hc
end l_szStringS
namespace l_szSubS
structure Gs where
  none_ : Unit
noncomputable def ents (_ : Gs) : List Ent := []
noncomputable def main {R : Type} (G : Gs) (n : Nat) (a : List Sb) (left : Int) (K : Int → Option R) : Option R :=
  bif decide ((wr (left - (List.length a : Int))) < 0) then
    (K (-1))
  else
    K (wr (left - (List.length a : Int)))
noncomputable def pc (_ : Gs) (_ : Nat) : Pcs := ⟨fun _ _ _ _ => none, fun _ _ _ _ => none, fun _ _ _ _ => none⟩
noncomputable def an : Ann := ⟨12, 0, [], [], [4], []⟩
theorem allp {G : Gs} (hG : AllE Try.prog (ents G)) (n : Nat) : AllP Try.prog an (pc G n) (pieces an (bodyOf Try.f22)) := by
    have h : pieces an (bodyOf Try.f22) = [] := by kernel_rfl
    rw [h]
    exact trivial
/-- What the function computes. -/
noncomputable def Does (G : Gs) (a : List Sb) (left : Int) (r : Int) : Prop := ∃ n, main (R := AT × List Ob) G n a left (fun r0 => some (.one (.i r0), [])) = some (.one (.i r), [])
theorem eq (G : Gs) (n : Nat) (a : List Sb) (left : Int) : den tb (orcOf (ents G)) (pc G n) an (bodyOf Try.f22) ⟨argsD 0 [.one (.l (.n 5) a), .one (.i left)], []⟩ (atEnd (finF tb an [.tmp 4])) = main (R := AT × List Ob) G n a left (fun r0 => some (.one (.i r0), [])) := by kernel_rfl
theorem ok {G : Gs} (hG : AllE Try.prog (ents G)) {g : List Sb → Int → Option (Int)} (hg : ∀ a left r, g a left = some r → Does G a left r) : EntOK Try.prog (ent g) := fun R xs H K r hc => by
  simp only [ent] at hc
  split at hc
  · rename_i a a2
    obtain ⟨r, q1, q2⟩ := bind_some hc
    obtain ⟨n, q3⟩ := hg a a2 _ q1
    exact ⟨_, _, q2, fn_of_den (pc := pc G n) (an := an) (xs := [.one (.l (.n 5) a), .one (.i a2)]) (H := []) (fin := finF tb an [.tmp 4]) mixed tb_ok (orc_ok hG) (fn := Try.f22) (c := bodyOf Try.f22) Try.func22 (by kernel_rfl) (by kernel_rfl) (by kernel_rfl) (by kernel_rfl) (by kernel_rfl) (rs := [.tmp 4]) (by kernel_rfl) (.inl rfl) (allp hG n) ((eq G n a a2).trans q3)⟩
  · cases hc
end l_szSubS
namespace l_szDecl
structure Gs where
  l_szIntS : List Int → Int → Option (Int)
noncomputable def ents (G : Gs) : List Ent := [l_szIntS.ent G.l_szIntS]
noncomputable def main {R : Type} (G : Gs) (n : Nat) (a : Dc) (left : Int) (K : Int → Option R) : Option R :=
  Option.bind (G.l_szIntS (Dc.args a) left) fun r =>
  bif decide (r < 0) then
    (K (-1))
  else
    K r
noncomputable def pc (_ : Gs) (_ : Nat) : Pcs := ⟨fun _ _ _ _ => none, fun _ _ _ _ => none, fun _ _ _ _ => none⟩
noncomputable def an : Ann := ⟨12, 0, [], [], [4], []⟩
theorem allp {G : Gs} (hG : AllE Try.prog (ents G)) (n : Nat) : AllP Try.prog an (pc G n) (pieces an (bodyOf Try.f53)) := by
    have h : pieces an (bodyOf Try.f53) = [] := by kernel_rfl
    rw [h]
    exact trivial
/-- What the function computes. -/
noncomputable def Does (G : Gs) (a : Dc) (left : Int) (r : Int) : Prop := ∃ n, main (R := AT × List Ob) G n a left (fun r0 => some (.one (.i r0), [])) = some (.one (.i r), [])
theorem eq (G : Gs) (n : Nat) (a : Dc) (left : Int) : den tb (orcOf (ents G)) (pc G n) an (bodyOf Try.f53) ⟨argsD 0 [.agg [.l .i (Dc.args a), .i (Dc.result a)], .one (.i left)], []⟩ (atEnd (finF tb an [.tmp 4])) = main (R := AT × List Ob) G n a left (fun r0 => some (.one (.i r0), [])) := by kernel_rfl
theorem ok {G : Gs} (hG : AllE Try.prog (ents G)) {g : Dc → Int → Option (Int)} (hg : ∀ a left r, g a left = some r → Does G a left r) : EntOK Try.prog (ent g) := fun R xs H K r hc => by
  simp only [ent] at hc
  split at hc
  · rename_i a a2 a3
    obtain ⟨r, q1, q2⟩ := bind_some hc
    obtain ⟨n, q3⟩ := hg (Dc.mk a a2) a3 _ q1
    exact ⟨_, _, q2, fn_of_den (pc := pc G n) (an := an) (xs := [.agg [.l .i a, .i a2], .one (.i a3)]) (H := []) (fin := finF tb an [.tmp 4]) mixed tb_ok (orc_ok hG) (fn := Try.f53) (c := bodyOf Try.f53) Try.func53 (by kernel_rfl) (by kernel_rfl) (by kernel_rfl) (by kernel_rfl) (by kernel_rfl) (rs := [.tmp 4]) (by kernel_rfl) (.inl rfl) (allp hG n) ((eq G n (Dc.mk a a2) a3).trans q3)⟩
  · cases hc
end l_szDecl
namespace l_szDeclS
structure Gs where
  l_szDecl : Dc → Int → Option (Int)
noncomputable def ents (G : Gs) : List Ent := [l_szDecl.ent G.l_szDecl]
noncomputable def b5 {R : Type} (G : Gs) (n : Nat) (a : List Dc) (left : Int) (i : Int) (nx : List Dc → Int → Int → Option R) (k0 : Int → Option R) (k1 : Int → Option R) : Option R :=
  bif decide (i < (List.length a : Int)) then
    (
    Option.bind (ix a i) fun e =>
    Option.bind (G.l_szDecl e left) fun r =>
    bif decide (r < 0) then
      (k0 (-1))
    else
      nx a r (wr (i + 1))
    )
  else
    k1 left
noncomputable def l5 {R : Type} (G : Gs) (n m : Nat) (a : List Dc) (left : Int) (i : Int) (k0 : Int → Option R) (k1 : Int → Option R) : Option R := iter (fun (v : List Dc × Int × Int) nx => b5 G n v.1 v.2.1 v.2.2 (fun y0 y1 y2 => nx (y0, y1, y2)) k0 k1) m (a, left, i)
noncomputable def main {R : Type} (G : Gs) (n : Nat) (a : List Dc) (left : Int) (K : Int → Option R) : Option R :=
  bif decide ((wr (left - (List.length a : Int))) < 0) then
    (K (-1))
  else
    l5 G n n a (wr (left - (List.length a : Int))) 0
      (fun t4 => K t4)
      (fun left2 => K left2)
noncomputable def dl5 (G : Gs) (n m : Nat) (R : Type) (st : St) (K : Kt R) : Option R := match st with
  | ⟨[(0, .one (.l (.n 7) a)), (1, .one (.i left)), (5, .one (.i i))], []⟩ => l5 G n m a left i (fun t4 => K .ret ⟨[(4, .one (.i t4))], []⟩) (fun left => K (.exit 0) ⟨[(1, .one (.i left))], []⟩)
  | _ => none
noncomputable def pc (G : Gs) (n : Nat) : Pcs := ⟨fun R id st K => bif Nat.beq id 5 then dl5 G n n R st K else none, fun _ _ _ _ => none, fun _ _ _ _ => none⟩
noncomputable def an : Ann := ⟨27, 0, [(5, [0, 1, 5])], [], [4], []⟩
theorem s5 (G : Gs) (n m : Nat) (R : Type) (a : List Dc) (left : Int) (i : Int) (K : Kt R) : den tb (orcOf (ents G)) (pc G n) an (nthC [1, 1, 1, 0, 1, 0, 0] (bodyOf Try.f38)) ⟨[(0, .one (.l (.n 7) a)), (1, .one (.i left)), (5, .one (.i i))], []⟩ (roundK an.refs [0, 1, 5] ⟨[1], [4], [(0, [1])]⟩ (fun st => dl5 G n m R st K) K) = dl5 G n (m + 1) R ⟨[(0, .one (.l (.n 7) a)), (1, .one (.i left)), (5, .one (.i i))], []⟩ K := by kernel_rfl
theorem pl5 {G : Gs} (hG : AllE Try.prog (ents G)) (n : Nat) : ∀ m, PieceOK Try.prog an (.loop (nthC [1, 1, 1, 0, 1, 0, 0] (bodyOf Try.f38))) (dl5 G n m) := by
  refine loop_piece mixed tb_ok (orc_ok hG) (pc := pc G n) (lv := [0, 1, 5]) (o := ⟨[1], [4], [(0, [1])]⟩) (by
    have h : pieces an (nthC [1, 1, 1, 0, 1, 0, 0] (bodyOf Try.f38)) = [] := by kernel_rfl
    rw [h]
    exact trivial) (fun R st K => ?_) (fun m R st K r h => ?_)
  · unfold dl5; split <;> rfl
  · have e := h
    unfold dl5 at e
    split at e
    · rename_i x0 x1 x2; exact (s5 G n m R x0 x1 x2 K).trans h
    · cases e
theorem allp {G : Gs} (hG : AllE Try.prog (ents G)) (n : Nat) : AllP Try.prog an (pc G n) (pieces an (bodyOf Try.f38)) := by
    have h : pieces an (bodyOf Try.f38) = [(1, 5, .loop (nthC [1, 1, 1, 0, 1, 0, 0] (bodyOf Try.f38)))] := by kernel_rfl
    rw [h]
    exact ⟨pl5 hG n n, trivial⟩
/-- What the function computes. -/
noncomputable def Does (G : Gs) (a : List Dc) (left : Int) (r : Int) : Prop := ∃ n, main (R := AT × List Ob) G n a left (fun r0 => some (.one (.i r0), [])) = some (.one (.i r), [])
theorem eq (G : Gs) (n : Nat) (a : List Dc) (left : Int) : den tb (orcOf (ents G)) (pc G n) an (bodyOf Try.f38) ⟨argsD 0 [.one (.l (.n 7) a), .one (.i left)], []⟩ (atEnd (finF tb an [.tmp 4])) = main (R := AT × List Ob) G n a left (fun r0 => some (.one (.i r0), [])) := by kernel_rfl
theorem ok {G : Gs} (hG : AllE Try.prog (ents G)) {g : List Dc → Int → Option (Int)} (hg : ∀ a left r, g a left = some r → Does G a left r) : EntOK Try.prog (ent g) := fun R xs H K r hc => by
  simp only [ent] at hc
  split at hc
  · rename_i a a2
    obtain ⟨r, q1, q2⟩ := bind_some hc
    obtain ⟨n, q3⟩ := hg a a2 _ q1
    exact ⟨_, _, q2, fn_of_den (pc := pc G n) (an := an) (xs := [.one (.l (.n 7) a), .one (.i a2)]) (H := []) (fin := finF tb an [.tmp 4]) mixed tb_ok (orc_ok hG) (fn := Try.f38) (c := bodyOf Try.f38) Try.func38 (by kernel_rfl) (by kernel_rfl) (by kernel_rfl) (by kernel_rfl) (by kernel_rfl) (rs := [.tmp 4]) (by kernel_rfl) (.inl rfl) (allp hG n) ((eq G n a a2).trans q3)⟩
  · cases hc
end l_szDeclS
namespace l_szOp
structure Gs where
  l_szDeclS : List Dc → Int → Option (Int)
noncomputable def ents (G : Gs) : List Ent := [l_szDeclS.ent G.l_szDeclS]
noncomputable def main {R : Type} (G : Gs) (n : Nat) (a : Opr) (left : Int) (K : Int → Option R) : Option R :=
  bif decide ((wr (left - (ByteArray.size (Opr.name a) : Int))) < 0) then
    (K (-1))
  else
    Option.bind (G.l_szDeclS (Opr.decls a) (wr (left - (ByteArray.size (Opr.name a) : Int)))) fun r =>
    bif decide (r < 0) then
      (K (-1))
    else
      K r
noncomputable def pc (_ : Gs) (_ : Nat) : Pcs := ⟨fun _ _ _ _ => none, fun _ _ _ _ => none, fun _ _ _ _ => none⟩
noncomputable def an : Ann := ⟨19, 0, [], [], [4], []⟩
theorem allp {G : Gs} (hG : AllE Try.prog (ents G)) (n : Nat) : AllP Try.prog an (pc G n) (pieces an (bodyOf Try.f23)) := by
    have h : pieces an (bodyOf Try.f23) = [] := by kernel_rfl
    rw [h]
    exact trivial
/-- What the function computes. -/
noncomputable def Does (G : Gs) (a : Opr) (left : Int) (r : Int) : Prop := ∃ n, main (R := AT × List Ob) G n a left (fun r0 => some (.one (.i r0), [])) = some (.one (.i r), [])
theorem eq (G : Gs) (n : Nat) (a : Opr) (left : Int) : den tb (orcOf (ents G)) (pc G n) an (bodyOf Try.f23) ⟨argsD 0 [.agg [.s (Opr.name a), .l (.n 7) (Opr.decls a), .b (Opr.assoc a), .b (Opr.comm a), .i (Opr.unit a)], .one (.i left)], []⟩ (atEnd (finF tb an [.tmp 4])) = main (R := AT × List Ob) G n a left (fun r0 => some (.one (.i r0), [])) := by kernel_rfl
theorem ok {G : Gs} (hG : AllE Try.prog (ents G)) {g : Opr → Int → Option (Int)} (hg : ∀ a left r, g a left = some r → Does G a left r) : EntOK Try.prog (ent g) := fun R xs H K r hc => by
  simp only [ent] at hc
  split at hc
  · rename_i a a2 a3 a4 a5 a6
    obtain ⟨r, q1, q2⟩ := bind_some hc
    obtain ⟨n, q3⟩ := hg (Opr.mk a a2 a3 a4 a5) a6 _ q1
    exact ⟨_, _, q2, fn_of_den (pc := pc G n) (an := an) (xs := [.agg [.s a, .l (.n 7) a2, .b a3, .b a4, .i a5], .one (.i a6)]) (H := []) (fin := finF tb an [.tmp 4]) mixed tb_ok (orc_ok hG) (fn := Try.f23) (c := bodyOf Try.f23) Try.func23 (by kernel_rfl) (by kernel_rfl) (by kernel_rfl) (by kernel_rfl) (by kernel_rfl) (rs := [.tmp 4]) (by kernel_rfl) (.inl rfl) (allp hG n) ((eq G n (Opr.mk a a2 a3 a4 a5) a6).trans q3)⟩
  · cases hc
end l_szOp
namespace l_szOpS
structure Gs where
  l_szOp : Opr → Int → Option (Int)
noncomputable def ents (G : Gs) : List Ent := [l_szOp.ent G.l_szOp]
noncomputable def b5 {R : Type} (G : Gs) (n : Nat) (a : List Opr) (left : Int) (i : Int) (nx : List Opr → Int → Int → Option R) (k0 : Int → Option R) (k1 : Int → Option R) : Option R :=
  bif decide (i < (List.length a : Int)) then
    (
    Option.bind (ix a i) fun e =>
    Option.bind (G.l_szOp e left) fun r =>
    bif decide (r < 0) then
      (k0 (-1))
    else
      nx a r (wr (i + 1))
    )
  else
    k1 left
noncomputable def l5 {R : Type} (G : Gs) (n m : Nat) (a : List Opr) (left : Int) (i : Int) (k0 : Int → Option R) (k1 : Int → Option R) : Option R := iter (fun (v : List Opr × Int × Int) nx => b5 G n v.1 v.2.1 v.2.2 (fun y0 y1 y2 => nx (y0, y1, y2)) k0 k1) m (a, left, i)
noncomputable def main {R : Type} (G : Gs) (n : Nat) (a : List Opr) (left : Int) (K : Int → Option R) : Option R :=
  bif decide ((wr (left - (List.length a : Int))) < 0) then
    (K (-1))
  else
    l5 G n n a (wr (left - (List.length a : Int))) 0
      (fun t4 => K t4)
      (fun left2 => K left2)
noncomputable def dl5 (G : Gs) (n m : Nat) (R : Type) (st : St) (K : Kt R) : Option R := match st with
  | ⟨[(0, .one (.l (.n 8) a)), (1, .one (.i left)), (5, .one (.i i))], []⟩ => l5 G n m a left i (fun t4 => K .ret ⟨[(4, .one (.i t4))], []⟩) (fun left => K (.exit 0) ⟨[(1, .one (.i left))], []⟩)
  | _ => none
noncomputable def pc (G : Gs) (n : Nat) : Pcs := ⟨fun R id st K => bif Nat.beq id 5 then dl5 G n n R st K else none, fun _ _ _ _ => none, fun _ _ _ _ => none⟩
noncomputable def an : Ann := ⟨27, 0, [(5, [0, 1, 5])], [], [4], []⟩
theorem s5 (G : Gs) (n m : Nat) (R : Type) (a : List Opr) (left : Int) (i : Int) (K : Kt R) : den tb (orcOf (ents G)) (pc G n) an (nthC [1, 1, 1, 0, 1, 0, 0] (bodyOf Try.f12)) ⟨[(0, .one (.l (.n 8) a)), (1, .one (.i left)), (5, .one (.i i))], []⟩ (roundK an.refs [0, 1, 5] ⟨[1], [4], [(0, [1])]⟩ (fun st => dl5 G n m R st K) K) = dl5 G n (m + 1) R ⟨[(0, .one (.l (.n 8) a)), (1, .one (.i left)), (5, .one (.i i))], []⟩ K := by kernel_rfl
theorem pl5 {G : Gs} (hG : AllE Try.prog (ents G)) (n : Nat) : ∀ m, PieceOK Try.prog an (.loop (nthC [1, 1, 1, 0, 1, 0, 0] (bodyOf Try.f12))) (dl5 G n m) := by
  refine loop_piece mixed tb_ok (orc_ok hG) (pc := pc G n) (lv := [0, 1, 5]) (o := ⟨[1], [4], [(0, [1])]⟩) (by
    have h : pieces an (nthC [1, 1, 1, 0, 1, 0, 0] (bodyOf Try.f12)) = [] := by kernel_rfl
    rw [h]
    exact trivial) (fun R st K => ?_) (fun m R st K r h => ?_)
  · unfold dl5; split <;> rfl
  · have e := h
    unfold dl5 at e
    split at e
    · rename_i x0 x1 x2; exact (s5 G n m R x0 x1 x2 K).trans h
    · cases e
theorem allp {G : Gs} (hG : AllE Try.prog (ents G)) (n : Nat) : AllP Try.prog an (pc G n) (pieces an (bodyOf Try.f12)) := by
    have h : pieces an (bodyOf Try.f12) = [(1, 5, .loop (nthC [1, 1, 1, 0, 1, 0, 0] (bodyOf Try.f12)))] := by kernel_rfl
    rw [h]
    exact ⟨pl5 hG n n, trivial⟩
/-- What the function computes. -/
noncomputable def Does (G : Gs) (a : List Opr) (left : Int) (r : Int) : Prop := ∃ n, main (R := AT × List Ob) G n a left (fun r0 => some (.one (.i r0), [])) = some (.one (.i r), [])
theorem eq (G : Gs) (n : Nat) (a : List Opr) (left : Int) : den tb (orcOf (ents G)) (pc G n) an (bodyOf Try.f12) ⟨argsD 0 [.one (.l (.n 8) a), .one (.i left)], []⟩ (atEnd (finF tb an [.tmp 4])) = main (R := AT × List Ob) G n a left (fun r0 => some (.one (.i r0), [])) := by kernel_rfl
theorem ok {G : Gs} (hG : AllE Try.prog (ents G)) {g : List Opr → Int → Option (Int)} (hg : ∀ a left r, g a left = some r → Does G a left r) : EntOK Try.prog (ent g) := fun R xs H K r hc => by
  simp only [ent] at hc
  split at hc
  · rename_i a a2
    obtain ⟨r, q1, q2⟩ := bind_some hc
    obtain ⟨n, q3⟩ := hg a a2 _ q1
    exact ⟨_, _, q2, fn_of_den (pc := pc G n) (an := an) (xs := [.one (.l (.n 8) a), .one (.i a2)]) (H := []) (fin := finF tb an [.tmp 4]) mixed tb_ok (orc_ok hG) (fn := Try.f12) (c := bodyOf Try.f12) Try.func12 (by kernel_rfl) (by kernel_rfl) (by kernel_rfl) (by kernel_rfl) (by kernel_rfl) (rs := [.tmp 4]) (by kernel_rfl) (.inl rfl) (allp hG n) ((eq G n a a2).trans q3)⟩
  · cases hc
end l_szOpS
namespace l_szSorts
structure Gs where
  l_szStringS : List ByteArray → Int → Option (Int)
  l_szSubS : List Sb → Int → Option (Int)
noncomputable def ents (G : Gs) : List Ent := [l_szStringS.ent G.l_szStringS, l_szSubS.ent G.l_szSubS]
noncomputable def main {R : Type} (G : Gs) (n : Nat) (a : So) (left : Int) (K : Int → Option R) : Option R :=
  Option.bind (G.l_szStringS (So.names a) left) fun r =>
  bif decide (r < 0) then
    (K (-1))
  else
    Option.bind (G.l_szSubS (So.subs a) r) fun r2 =>
    bif decide (r2 < 0) then
      (K (-1))
    else
      K r2
noncomputable def pc (_ : Gs) (_ : Nat) : Pcs := ⟨fun _ _ _ _ => none, fun _ _ _ _ => none, fun _ _ _ _ => none⟩
noncomputable def an : Ann := ⟨18, 0, [], [], [4], []⟩
theorem allp {G : Gs} (hG : AllE Try.prog (ents G)) (n : Nat) : AllP Try.prog an (pc G n) (pieces an (bodyOf Try.f11)) := by
    have h : pieces an (bodyOf Try.f11) = [] := by kernel_rfl
    rw [h]
    exact trivial
/-- What the function computes. -/
noncomputable def Does (G : Gs) (a : So) (left : Int) (r : Int) : Prop := ∃ n, main (R := AT × List Ob) G n a left (fun r0 => some (.one (.i r0), [])) = some (.one (.i r), [])
theorem eq (G : Gs) (n : Nat) (a : So) (left : Int) : den tb (orcOf (ents G)) (pc G n) an (bodyOf Try.f11) ⟨argsD 0 [.agg [.l .s (So.names a), .l (.n 5) (So.subs a)], .one (.i left)], []⟩ (atEnd (finF tb an [.tmp 4])) = main (R := AT × List Ob) G n a left (fun r0 => some (.one (.i r0), [])) := by kernel_rfl
theorem ok {G : Gs} (hG : AllE Try.prog (ents G)) {g : So → Int → Option (Int)} (hg : ∀ a left r, g a left = some r → Does G a left r) : EntOK Try.prog (ent g) := fun R xs H K r hc => by
  simp only [ent] at hc
  split at hc
  · rename_i a a2 a3
    obtain ⟨r, q1, q2⟩ := bind_some hc
    obtain ⟨n, q3⟩ := hg (So.mk a a2) a3 _ q1
    exact ⟨_, _, q2, fn_of_den (pc := pc G n) (an := an) (xs := [.agg [.l .s a, .l (.n 5) a2], .one (.i a3)]) (H := []) (fin := finF tb an [.tmp 4]) mixed tb_ok (orc_ok hG) (fn := Try.f11) (c := bodyOf Try.f11) Try.func11 (by kernel_rfl) (by kernel_rfl) (by kernel_rfl) (by kernel_rfl) (by kernel_rfl) (rs := [.tmp 4]) (by kernel_rfl) (.inl rfl) (allp hG n) ((eq G n (So.mk a a2) a3).trans q3)⟩
  · cases hc
end l_szSorts
namespace l_szSignature
structure Gs where
  l_szSorts : So → Int → Option (Int)
  l_szOpS : List Opr → Int → Option (Int)
noncomputable def ents (G : Gs) : List Ent := [l_szSorts.ent G.l_szSorts, l_szOpS.ent G.l_szOpS]
noncomputable def main {R : Type} (G : Gs) (n : Nat) (a : Sg) (left : Int) (K : Int → Option R) : Option R :=
  Option.bind (G.l_szSorts (Sg.sorts a) left) fun r =>
  bif decide (r < 0) then
    (K (-1))
  else
    Option.bind (G.l_szOpS (Sg.ops a) r) fun r2 =>
    bif decide (r2 < 0) then
      (K (-1))
    else
      K r2
noncomputable def pc (_ : Gs) (_ : Nat) : Pcs := ⟨fun _ _ _ _ => none, fun _ _ _ _ => none, fun _ _ _ _ => none⟩
noncomputable def an : Ann := ⟨18, 0, [], [], [4], []⟩
theorem allp {G : Gs} (hG : AllE Try.prog (ents G)) (n : Nat) : AllP Try.prog an (pc G n) (pieces an (bodyOf Try.f4)) := by
    have h : pieces an (bodyOf Try.f4) = [] := by kernel_rfl
    rw [h]
    exact trivial
/-- What the function computes. -/
noncomputable def Does (G : Gs) (a : Sg) (left : Int) (r : Int) : Prop := ∃ n, main (R := AT × List Ob) G n a left (fun r0 => some (.one (.i r0), [])) = some (.one (.i r), [])
theorem eq (G : Gs) (n : Nat) (a : Sg) (left : Int) : den tb (orcOf (ents G)) (pc G n) an (bodyOf Try.f4) ⟨argsD 0 [.agg [.l .s (So.names (Sg.sorts a)), .l (.n 5) (So.subs (Sg.sorts a)), .l (.n 8) (Sg.ops a)], .one (.i left)], []⟩ (atEnd (finF tb an [.tmp 4])) = main (R := AT × List Ob) G n a left (fun r0 => some (.one (.i r0), [])) := by kernel_rfl
theorem ok {G : Gs} (hG : AllE Try.prog (ents G)) {g : Sg → Int → Option (Int)} (hg : ∀ a left r, g a left = some r → Does G a left r) : EntOK Try.prog (ent g) := fun R xs H K r hc => by
  simp only [ent] at hc
  split at hc
  · rename_i a a2 a3 a4
    obtain ⟨r, q1, q2⟩ := bind_some hc
    obtain ⟨n, q3⟩ := hg (Sg.mk (So.mk a a2) a3) a4 _ q1
    exact ⟨_, _, q2, fn_of_den (pc := pc G n) (an := an) (xs := [.agg [.l .s a, .l (.n 5) a2, .l (.n 8) a3], .one (.i a4)]) (H := []) (fin := finF tb an [.tmp 4]) mixed tb_ok (orc_ok hG) (fn := Try.f4) (c := bodyOf Try.f4) Try.func4 (by kernel_rfl) (by kernel_rfl) (by kernel_rfl) (by kernel_rfl) (by kernel_rfl) (rs := [.tmp 4]) (by kernel_rfl) (.inl rfl) (allp hG n) ((eq G n (Sg.mk (So.mk a a2) a3) a4).trans q3)⟩
  · cases hc
end l_szSignature
end Go.Proofs.Ytjafncnjefnloaa.Den

/-
  The laws' own functions on data: sizes, copies, comparisons. Printed by wip/den/wrap.py.
-/
namespace Go.Proofs.Ytjafncnjefnloaa.Den
open Go.RowKit
set_option linter.unusedVariables false
def w_IntS (xs : List Int) : Nat := xs.length
theorem szIntS_ex : ∃ g, EntOK Try.prog (l_szIntS.ent g) ∧ SZ (.sl .i) w_IntS g :=
  by_pick2 (fun g hg => l_szIntS.ok (G := ⟨()⟩) trivial hg) fun (xs : List Int) (left : Int) ⟨hf, h0, h1⟩ => by
    have hc := fit_sl.1 hf
    have hlen : xs.length ≤ 9223372036854775807 := hc.len
    have e1 : wr (left - (List.length xs : Int)) = left - (List.length xs : Int) := wr_in (by omega)
    refine ⟨_, ⟨xs.length + 1, ?_⟩, rfl⟩
    unfold l_szIntS.main
    rw [e1]
    by_cases c1 : (List.length xs : Int) ≤ left
    · rw [decide_eq_false (by omega), cond_false, if_pos (show ((w_IntS xs : Nat) : Int) ≤ left from c1)]; rfl
    · rw [decide_eq_true (by omega), cond_true, if_neg (show ¬ ((w_IntS xs : Nat) : Int) ≤ left from c1)]
theorem szIntS_all : ∃ g, EntOK Try.prog (l_szIntS.ent g) ∧ SZ (.sl .i) w_IntS g := by
  exact szIntS_ex 
theorem le_IntS {xs : List Int} (h : w_IntS xs ≤ 1048576) : xs.length ≤ 1048576 := h
theorem toIntS_ex : ∃ g, EntOK Try.prog (l_toIntS.ent g) ∧ TO (.sl .i) w_IntS g :=
  by_pick (fun g hg => l_toIntS.ok (G := ⟨()⟩) trivial hg) fun (xs : List Int) ⟨hf, h1⟩ => by
    have hc := fit_sl.1 hf
    have hlen : xs.length ≤ 1048576 := le_IntS h1
    refine ⟨_, ⟨xs.length + 1, ?_⟩, rfl⟩
    unfold l_toIntS.main
    rw [mk_nat (by omega), Option.bind_some]
    refine Eq.trans (iter_rule (body := fun v nx => l_toIntS.b3 ⟨()⟩ (xs.length + 1) v.1 v.2.1 v.2.2 (fun y0 y1 y2 => nx (y0, y1, y2)) (fun h => some (AT.one (.l .i h), ([] : List Ob)))) (Q := fun v => v.1 = xs ∧ 0 ≤ v.2.1 ∧ v.2.1 ≤ xs.length ∧ v.2.2.length = xs.length ∧ v.2.2.take v.2.1.toNat = xs.take v.2.1.toNat) (μ := fun v => (xs.length - v.2.1).toNat) (f := fun _ => some (AT.one (.l .i xs), [])) ?_ (xs.length + 1) (xs, 0, _) ⟨rfl, by simp, by simp, by simp, by simp⟩ (by simp)) rfl
    rintro ⟨a, i, h⟩ nx ⟨e0, q0, q1, q2, q3⟩ ih
    simp only at e0 q0 q1 q2 q3 ih ⊢
    subst e0
    unfold l_toIntS.b3
    by_cases hi : i < (List.length a : Int)
    · obtain ⟨x, x1, x2, _, x4⟩ := drop_step q0 hi
      obtain ⟨y, y1⟩ := ix_len (a := h) q0 (by omega)
      rw [decide_eq_true hi, cond_true, x1, Option.bind_some]
      rw [y1, Option.bind_some, wr_in (x := i + 1) (by omega)]
      obtain ⟨s1, s2⟩ := set_take q0 hi q2 q3 x4
      exact ih (a, i + 1, _) ⟨rfl, by simp only; omega, by simp only; omega, s1, s2⟩ (by simp only; omega)
    · rw [decide_eq_false hi, cond_false, full_take hi q2 q3]
theorem toIntS_all : ∃ g, EntOK Try.prog (l_toIntS.ent g) ∧ TO (.sl .i) w_IntS g := by
  exact toIntS_ex 
theorem eqIntS_ex : ∃ g, EntOK Try.prog (l_eqIntS.ent g) ∧ EQ (.sl .i) w_IntS g :=
  by_pick2 (fun g hg => l_eqIntS.ok (G := ⟨()⟩) trivial hg) fun (xs ys : List Int) ⟨hxy, hf, h1⟩ => by
    subst hxy
    have hc := fit_sl.1 hf
    have hlen : xs.length ≤ 1048576 := le_IntS h1
    refine ⟨_, ⟨xs.length + 1, ?_⟩, rfl⟩
    unfold l_eqIntS.main
    rw [decide_eq_true rfl, Bool.not_true, cond_false]
    refine Eq.trans (iter_rule (body := fun v nx => l_eqIntS.b4 ⟨()⟩ (xs.length + 1) v.1 v.2.1 v.2.2 (fun y0 y1 y2 => nx (y0, y1, y2)) (fun t => some (AT.one (.b t), ([] : List Ob))) (some (AT.one (.b true), []))) (Q := fun v => v.1 = xs ∧ v.2.1 = xs ∧ 0 ≤ v.2.2 ∧ v.2.2 ≤ xs.length) (μ := fun v => (xs.length - v.2.2).toNat) (f := fun _ => some (AT.one (.b true), [])) ?_ (xs.length + 1) (xs, xs, 0) ⟨rfl, rfl, by simp, by simp⟩ (by simp)) rfl
    rintro ⟨a, b, i⟩ nx ⟨e1, e0, q0, q1⟩ ih
    simp only at e1 e0 q0 q1 ih ⊢
    subst e1
    subst e0
    unfold l_eqIntS.b4
    by_cases hi : i < (List.length b : Int)
    · obtain ⟨x, x1, x2, _, x4⟩ := drop_step q0 hi
      rw [decide_eq_true hi, cond_true, x1, Option.bind_some, Option.bind_some]
      rw [decide_eq_true rfl, Bool.not_true, cond_false]
      rw [wr_in (x := i + 1) (by omega)]
      exact ih (b, b, i + 1) ⟨rfl, rfl, by simp only; omega, by simp only; omega⟩ (by simp only; omega)
    · rw [decide_eq_false hi, cond_false]
theorem eqIntS_all : ∃ g, EntOK Try.prog (l_eqIntS.ent g) ∧ EQ (.sl .i) w_IntS g := by
  exact eqIntS_ex 
def w_StringS (xs : List ByteArray) : Nat := wL (fun x : ByteArray => x.size) xs
theorem szStringS_ex : ∃ g, EntOK Try.prog (l_szStringS.ent g) ∧ SZ (.sl .s) w_StringS g :=
  by_pick2 (fun g hg => l_szStringS.ok (G := ⟨()⟩) trivial hg) fun (xs : List ByteArray) (left : Int) ⟨hf, h0, h1⟩ => by
    have hc := fit_sl.1 hf
    have hlen : xs.length ≤ 9223372036854775807 := hc.len
    have e1 : wr (left - (List.length xs : Int)) = left - (List.length xs : Int) := wr_in (by omega)
    refine ⟨_, ⟨xs.length + 1, ?_⟩, rfl⟩
    unfold l_szStringS.main
    rw [e1]
    by_cases c1 : (List.length xs : Int) ≤ left
    · rw [decide_eq_false (by omega), cond_false]
      have key := iter_rule (body := fun v nx => l_szStringS.b5 ⟨()⟩ (xs.length + 1) v.1 v.2.1 v.2.2 (fun y0 y1 y2 => nx (y0, y1, y2)) (fun t4 => some (AT.one (.i t4), ([] : List Ob))) (fun left2 => some (AT.one (.i left2), []))) (Q := fun v => v.1 = xs ∧ 0 ≤ v.2.1 ∧ v.2.1 ≤ 1048576 ∧ 0 ≤ v.2.2 ∧ v.2.2 ≤ xs.length) (μ := fun v => (xs.length - v.2.2).toNat) (f := fun v => some (AT.one (.i (if (wS (fun x : ByteArray => x.size) (xs.drop v.2.2.toNat) : Int) ≤ v.2.1 then v.2.1 - wS (fun x : ByteArray => x.size) (xs.drop v.2.2.toNat) else -1)), [])) ?_ (xs.length + 1) (xs, left - (List.length xs : Int), 0) ⟨rfl, by simp only; omega, by simp only; omega, by simp, by simp⟩ (by simp)
      · refine Eq.trans key ?_
        simp only [Int.toNat_zero, List.drop_zero]
        have e2 : (w_StringS xs : Int) = xs.length + wS (fun x : ByteArray => x.size) xs := by show ((xs.length + _ : Nat) : Int) = _; omega
        by_cases c2 : (wS (fun x : ByteArray => x.size) xs : Int) ≤ left - xs.length
        · rw [if_pos c2, if_pos (by omega)]; congr 4; omega
        · rw [if_neg c2, if_neg (by omega)]
      · rintro ⟨a, lf, i⟩ nx ⟨e0, q0, q1, q2, q3⟩ ih
        simp only at e0 q0 q1 q2 q3 ih ⊢
        subst e0
        unfold l_szStringS.b5
        by_cases hi : i < (List.length a : Int)
        · obtain ⟨x, x1, x2, x3, _⟩ := drop_step q2 hi
          rw [decide_eq_true hi, cond_true, x1, Option.bind_some, x3, wS_cons]
          have hs := (fit_s.1 (hc.mem x x2)).str
          rw [wr_in (x := lf - (ByteArray.size x : Int)) (by omega), wr_in (x := i + 1) (by omega)]
          by_cases c2 : (ByteArray.size x : Int) ≤ lf
          · rw [decide_eq_false (by omega), cond_false]
            refine Eq.trans (ih (a, lf - (ByteArray.size x : Int), i + 1) ⟨rfl, by simp only; omega, by simp only; omega, by simp only; omega, by simp only; omega⟩ (by simp only; omega)) ?_
            simp only
            by_cases c3 : (wS (fun x : ByteArray => x.size) (a.drop (i + 1).toNat) : Int) ≤ lf - (ByteArray.size x : Int)
            · rw [if_pos c3, if_pos (by omega)]; congr 4; omega
            · rw [if_neg c3, if_neg (by omega)]
          · rw [decide_eq_true (by omega), cond_true, if_neg (by omega)]
        · rw [decide_eq_false hi, cond_false, drop_all hi]
          simp only [wS, List.map_nil, List.sum_nil, Int.natCast_zero, Int.ofNat_zero, Int.sub_zero, if_pos q0]; first | done | (rw [if_pos q0]; rfl) | rfl
    · rw [decide_eq_true (by omega), cond_true, if_neg (by show ¬ ((xs.length + wS (fun x : ByteArray => x.size) xs : Nat) : Int) ≤ left; omega)]
theorem szStringS_all : ∃ g, EntOK Try.prog (l_szStringS.ent g) ∧ SZ (.sl .s) w_StringS g := by
  exact szStringS_ex 
theorem le_StringS {xs : List ByteArray} (h : w_StringS xs ≤ 1048576) : xs.length ≤ 1048576 ∧ ∀ x ∈ xs, x.size ≤ 1048576 := by
  have h : xs.length + wS (fun x : ByteArray => x.size) xs ≤ 1048576 := h
  exact ⟨by omega, fun x hx => by have : x.size ≤ wS (fun x : ByteArray => x.size) xs := wS_mem (f := fun x : ByteArray => x.size) hx; omega⟩
theorem toStringS_ex : ∃ g, EntOK Try.prog (l_toStringS.ent g) ∧ TO (.sl .s) w_StringS g :=
  by_pick (fun g hg => l_toStringS.ok (G := ⟨()⟩) trivial hg) fun (xs : List ByteArray) ⟨hf, h1⟩ => by
    have hc := fit_sl.1 hf
    have hlen : xs.length ≤ 1048576 := (le_StringS h1).1
    refine ⟨_, ⟨xs.length + 1, ?_⟩, rfl⟩
    unfold l_toStringS.main
    rw [mk_nat (by omega), Option.bind_some]
    refine Eq.trans (iter_rule (body := fun v nx => l_toStringS.b3 ⟨()⟩ (xs.length + 1) v.1 v.2.1 v.2.2 (fun y0 y1 y2 => nx (y0, y1, y2)) (fun h => some (AT.one (.l .s h), ([] : List Ob)))) (Q := fun v => v.1 = xs ∧ 0 ≤ v.2.1 ∧ v.2.1 ≤ xs.length ∧ v.2.2.length = xs.length ∧ v.2.2.take v.2.1.toNat = xs.take v.2.1.toNat) (μ := fun v => (xs.length - v.2.1).toNat) (f := fun _ => some (AT.one (.l .s xs), [])) ?_ (xs.length + 1) (xs, 0, _) ⟨rfl, by simp, by simp, by simp, by simp⟩ (by simp)) rfl
    rintro ⟨a, i, h⟩ nx ⟨e0, q0, q1, q2, q3⟩ ih
    simp only at e0 q0 q1 q2 q3 ih ⊢
    subst e0
    unfold l_toStringS.b3
    by_cases hi : i < (List.length a : Int)
    · obtain ⟨x, x1, x2, _, x4⟩ := drop_step q0 hi
      obtain ⟨y, y1⟩ := ix_len (a := h) q0 (by omega)
      rw [decide_eq_true hi, cond_true, x1, Option.bind_some]
      rw [y1, Option.bind_some, wr_in (x := i + 1) (by omega)]
      obtain ⟨s1, s2⟩ := set_take q0 hi q2 q3 x4
      exact ih (a, i + 1, _) ⟨rfl, by simp only; omega, by simp only; omega, s1, s2⟩ (by simp only; omega)
    · rw [decide_eq_false hi, cond_false, full_take hi q2 q3]
theorem toStringS_all : ∃ g, EntOK Try.prog (l_toStringS.ent g) ∧ TO (.sl .s) w_StringS g := by
  exact toStringS_ex 
theorem eqStringS_ex : ∃ g, EntOK Try.prog (l_eqStringS.ent g) ∧ EQ (.sl .s) w_StringS g :=
  by_pick2 (fun g hg => l_eqStringS.ok (G := ⟨()⟩) trivial hg) fun (xs ys : List ByteArray) ⟨hxy, hf, h1⟩ => by
    subst hxy
    have hc := fit_sl.1 hf
    have hlen : xs.length ≤ 1048576 := (le_StringS h1).1
    refine ⟨_, ⟨xs.length + 1, ?_⟩, rfl⟩
    unfold l_eqStringS.main
    rw [decide_eq_true rfl, Bool.not_true, cond_false]
    refine Eq.trans (iter_rule (body := fun v nx => l_eqStringS.b4 ⟨()⟩ (xs.length + 1) v.1 v.2.1 v.2.2 (fun y0 y1 y2 => nx (y0, y1, y2)) (fun t => some (AT.one (.b t), ([] : List Ob))) (some (AT.one (.b true), []))) (Q := fun v => v.1 = xs ∧ v.2.1 = xs ∧ 0 ≤ v.2.2 ∧ v.2.2 ≤ xs.length) (μ := fun v => (xs.length - v.2.2).toNat) (f := fun _ => some (AT.one (.b true), [])) ?_ (xs.length + 1) (xs, xs, 0) ⟨rfl, rfl, by simp, by simp⟩ (by simp)) rfl
    rintro ⟨a, b, i⟩ nx ⟨e1, e0, q0, q1⟩ ih
    simp only at e1 e0 q0 q1 ih ⊢
    subst e1
    subst e0
    unfold l_eqStringS.b4
    by_cases hi : i < (List.length b : Int)
    · obtain ⟨x, x1, x2, _, x4⟩ := drop_step q0 hi
      rw [decide_eq_true hi, cond_true, x1, Option.bind_some, Option.bind_some]
      rw [show sEq x x = true from decide_eq_true rfl, Bool.not_true, cond_false]
      rw [wr_in (x := i + 1) (by omega)]
      exact ih (b, b, i + 1) ⟨rfl, rfl, by simp only; omega, by simp only; omega⟩ (by simp only; omega)
    · rw [decide_eq_false hi, cond_false]
theorem eqStringS_all : ∃ g, EntOK Try.prog (l_eqStringS.ent g) ∧ EQ (.sl .s) w_StringS g := by
  exact eqStringS_ex 
theorem fit_Sub {x : Sb} (h : Fit (.n 5) x) : Fit .i x.low ∧ Fit .i x.high := by
  refine ⟨fun c hc => h c ?_, fun c hc => h c ?_⟩ <;> (simp only [explode, List.mem_cons, List.not_mem_nil, or_false] at hc ⊢; first | (subst hc; simp; done) | (rcases hc with rfl | rfl <;> simp; done) | (rcases hc with rfl | rfl | rfl <;> simp; done))
theorem toSub_ex : ∃ g, EntOK Try.prog (l_toSub.ent g) ∧ TO (.n 5) (fun _ => 0) g :=
  by_pick (fun g hg => l_toSub.ok (G := ⟨()⟩) trivial hg) fun x ⟨hf, h1⟩ => by
    obtain ⟨hf0, hf1⟩ := fit_Sub hf
    refine ⟨_, ⟨1, ?_⟩, rfl⟩
    unfold l_toSub.main
    rfl
theorem toSub_all : ∃ g, EntOK Try.prog (l_toSub.ent g) ∧ TO (.n 5) (fun _ => 0) g := by
  exact toSub_ex 
theorem eqSub_ex : ∃ g, EntOK Try.prog (l_eqSub.ent g) ∧ EQ (.n 5) (fun _ => 0) g :=
  by_pick2 (fun g hg => l_eqSub.ok (G := ⟨()⟩) trivial hg) fun x y ⟨hxy, hf, h1⟩ => by
    subst hxy
    obtain ⟨hf0, hf1⟩ := fit_Sub hf
    refine ⟨_, ⟨1, ?_⟩, rfl⟩
    unfold l_eqSub.main
    simp [sEq]
theorem eqSub_all : ∃ g, EntOK Try.prog (l_eqSub.ent g) ∧ EQ (.n 5) (fun _ => 0) g := by
  exact eqSub_ex 
def w_SubS (xs : List Sb) : Nat := xs.length
theorem szSubS_ex : ∃ g, EntOK Try.prog (l_szSubS.ent g) ∧ SZ (.sl (.n 5)) w_SubS g :=
  by_pick2 (fun g hg => l_szSubS.ok (G := ⟨()⟩) trivial hg) fun (xs : List Sb) (left : Int) ⟨hf, h0, h1⟩ => by
    have hc := fit_sl.1 hf
    have hlen : xs.length ≤ 9223372036854775807 := hc.len
    have e1 : wr (left - (List.length xs : Int)) = left - (List.length xs : Int) := wr_in (by omega)
    refine ⟨_, ⟨xs.length + 1, ?_⟩, rfl⟩
    unfold l_szSubS.main
    rw [e1]
    by_cases c1 : (List.length xs : Int) ≤ left
    · rw [decide_eq_false (by omega), cond_false, if_pos (show ((w_SubS xs : Nat) : Int) ≤ left from c1)]; rfl
    · rw [decide_eq_true (by omega), cond_true, if_neg (show ¬ ((w_SubS xs : Nat) : Int) ≤ left from c1)]
theorem szSubS_all : ∃ g, EntOK Try.prog (l_szSubS.ent g) ∧ SZ (.sl (.n 5)) w_SubS g := by
  exact szSubS_ex 
theorem le_SubS {xs : List Sb} (h : w_SubS xs ≤ 1048576) : xs.length ≤ 1048576 := h
theorem toSubS_ex {gE : Sb → Option Sb} (eE : EntOK Try.prog (l_toSub.ent gE)) (hE : TO (.n 5) (fun _ => 0) gE) : ∃ g, EntOK Try.prog (l_toSubS.ent g) ∧ TO (.sl (.n 5)) w_SubS g :=
  by_pick (fun g hg => l_toSubS.ok (G := ⟨gE⟩) ⟨eE, trivial⟩ hg) fun (xs : List Sb) ⟨hf, h1⟩ => by
    have hc := fit_sl.1 hf
    have hlen : xs.length ≤ 1048576 := le_SubS h1
    refine ⟨_, ⟨xs.length + 1, ?_⟩, rfl⟩
    unfold l_toSubS.main
    rw [mk_nat (by omega), Option.bind_some]
    refine Eq.trans (iter_rule (body := fun v nx => l_toSubS.b3 ⟨gE⟩ (xs.length + 1) v.1 v.2.1 v.2.2 (fun y0 y1 y2 => nx (y0, y1, y2)) (fun h => some (AT.one (.l (.n 5) h), ([] : List Ob)))) (Q := fun v => v.1 = xs ∧ 0 ≤ v.2.1 ∧ v.2.1 ≤ xs.length ∧ v.2.2.length = xs.length ∧ v.2.2.take v.2.1.toNat = xs.take v.2.1.toNat) (μ := fun v => (xs.length - v.2.1).toNat) (f := fun _ => some (AT.one (.l (.n 5) xs), [])) ?_ (xs.length + 1) (xs, 0, _) ⟨rfl, by simp, by simp, by simp, by simp⟩ (by simp)) rfl
    rintro ⟨a, i, h⟩ nx ⟨e0, q0, q1, q2, q3⟩ ih
    simp only at e0 q0 q1 q2 q3 ih ⊢
    subst e0
    unfold l_toSubS.b3
    by_cases hi : i < (List.length a : Int)
    · obtain ⟨x, x1, x2, _, x4⟩ := drop_step q0 hi
      obtain ⟨y, y1⟩ := ix_len (a := h) q0 (by omega)
      rw [decide_eq_true hi, cond_true, x1, Option.bind_some]
      have r1 : gE x = some x := by
        obtain ⟨_, r, q⟩ := hE x ⟨hc.mem x x2, Nat.zero_le _⟩
        rw [q] at r
        exact r
      dsimp only
      rw [r1, Option.bind_some]
      rw [y1, Option.bind_some, wr_in (x := i + 1) (by omega)]
      obtain ⟨s1, s2⟩ := set_take q0 hi q2 q3 x4
      exact ih (a, i + 1, _) ⟨rfl, by simp only; omega, by simp only; omega, s1, s2⟩ (by simp only; omega)
    · rw [decide_eq_false hi, cond_false, full_take hi q2 q3]
theorem toSubS_all : ∃ g, EntOK Try.prog (l_toSubS.ent g) ∧ TO (.sl (.n 5)) w_SubS g := by
  obtain ⟨_, e0, h0⟩ := toSub_all
  exact toSubS_ex e0 h0
theorem eqSubS_ex {gE : Sb → Sb → Option Bool} (eE : EntOK Try.prog (l_eqSub.ent gE)) (hE : EQ (.n 5) (fun _ => 0) gE) : ∃ g, EntOK Try.prog (l_eqSubS.ent g) ∧ EQ (.sl (.n 5)) w_SubS g :=
  by_pick2 (fun g hg => l_eqSubS.ok (G := ⟨gE⟩) ⟨eE, trivial⟩ hg) fun (xs ys : List Sb) ⟨hxy, hf, h1⟩ => by
    subst hxy
    have hc := fit_sl.1 hf
    have hlen : xs.length ≤ 1048576 := le_SubS h1
    refine ⟨_, ⟨xs.length + 1, ?_⟩, rfl⟩
    unfold l_eqSubS.main
    rw [decide_eq_true rfl, Bool.not_true, cond_false]
    refine Eq.trans (iter_rule (body := fun v nx => l_eqSubS.b4 ⟨gE⟩ (xs.length + 1) v.1 v.2.1 v.2.2 (fun y0 y1 y2 => nx (y0, y1, y2)) (fun t => some (AT.one (.b t), ([] : List Ob))) (some (AT.one (.b true), []))) (Q := fun v => v.1 = xs ∧ v.2.1 = xs ∧ 0 ≤ v.2.2 ∧ v.2.2 ≤ xs.length) (μ := fun v => (xs.length - v.2.2).toNat) (f := fun _ => some (AT.one (.b true), [])) ?_ (xs.length + 1) (xs, xs, 0) ⟨rfl, rfl, by simp, by simp⟩ (by simp)) rfl
    rintro ⟨a, b, i⟩ nx ⟨e1, e0, q0, q1⟩ ih
    simp only at e1 e0 q0 q1 ih ⊢
    subst e1
    subst e0
    unfold l_eqSubS.b4
    by_cases hi : i < (List.length b : Int)
    · obtain ⟨x, x1, x2, _, x4⟩ := drop_step q0 hi
      rw [decide_eq_true hi, cond_true, x1, Option.bind_some, Option.bind_some]
      have r1 : gE x x = some true := by
        obtain ⟨_, r, q⟩ := hE x x ⟨rfl, hc.mem x x2, Nat.zero_le _⟩
        rw [q] at r
        exact r
      dsimp only
      rw [r1, Option.bind_some, Bool.not_true, cond_false]
      rw [wr_in (x := i + 1) (by omega)]
      exact ih (b, b, i + 1) ⟨rfl, rfl, by simp only; omega, by simp only; omega⟩ (by simp only; omega)
    · rw [decide_eq_false hi, cond_false]
theorem eqSubS_all : ∃ g, EntOK Try.prog (l_eqSubS.ent g) ∧ EQ (.sl (.n 5)) w_SubS g := by
  obtain ⟨_, e0, h0⟩ := eqSub_all
  exact eqSubS_ex e0 h0
def w_Decl (x : Dc) : Nat := w_IntS x.args
theorem fit_Decl {x : Dc} (h : Fit (.n 7) x) : Fit (.sl .i) x.args ∧ Fit .i x.result := by
  refine ⟨fun c hc => h c ?_, fun c hc => h c ?_⟩ <;> (simp only [explode, List.mem_cons, List.not_mem_nil, or_false] at hc ⊢; first | (subst hc; simp; done) | (rcases hc with rfl | rfl <;> simp; done) | (rcases hc with rfl | rfl | rfl <;> simp; done))
theorem szDecl_ex {gIntS : List Int → Int → Option Int} (eIntS : EntOK Try.prog (l_szIntS.ent gIntS)) (hIntS : SZ (.sl .i) w_IntS gIntS) : ∃ g, EntOK Try.prog (l_szDecl.ent g) ∧ SZ (.n 7) w_Decl g :=
  by_pick2 (fun g hg => l_szDecl.ok (G := ⟨gIntS⟩) ⟨eIntS, trivial⟩ hg) fun x left ⟨hf, h0, h1⟩ => by
    obtain ⟨hf0, hf1⟩ := fit_Decl hf
    refine ⟨_, ⟨1, ?_⟩, rfl⟩
    unfold l_szDecl.main
    have ew : (w_Decl x : Int) = (w_IntS x.args : Int) := by show ((w_IntS x.args : Nat) : Int) = _; omega
    have r0 : gIntS x.args (left) = some (if (w_IntS x.args : Int) ≤ left then left - (w_IntS x.args : Int) else -1) := by
      obtain ⟨_, r, q⟩ := hIntS x.args (left) ⟨hf0, by omega, by omega⟩
      rw [q] at r
      exact r
    try dsimp only
    rw [r0, Option.bind_some]
    by_cases c0 : (w_IntS x.args : Int) ≤ left
    case neg => rw [if_neg c0, show decide ((-1 : Int) < 0) = true from rfl, cond_true, if_neg (by omega)]
    rw [if_pos c0, decide_eq_false (by omega), cond_false]
    rw [if_pos (by omega)]
    first | (congr 4; done) | (congr 4; omega)
theorem szDecl_all : ∃ g, EntOK Try.prog (l_szDecl.ent g) ∧ SZ (.n 7) w_Decl g := by
  obtain ⟨_, e0, h0⟩ := szIntS_all
  exact szDecl_ex e0 h0
theorem toDecl_ex {gIntS : List Int → Option (List Int)} (eIntS : EntOK Try.prog (l_toIntS.ent gIntS)) (hIntS : TO (.sl .i) w_IntS gIntS) : ∃ g, EntOK Try.prog (l_toDecl.ent g) ∧ TO (.n 7) w_Decl g :=
  by_pick (fun g hg => l_toDecl.ok (G := ⟨gIntS⟩) ⟨eIntS, trivial⟩ hg) fun x ⟨hf, h1⟩ => by
    obtain ⟨hf0, hf1⟩ := fit_Decl hf
    refine ⟨_, ⟨1, ?_⟩, rfl⟩
    unfold l_toDecl.main
    have r0 : gIntS x.args = some x.args := by
      obtain ⟨_, r, q⟩ := hIntS x.args ⟨hf0, (by have h1 : w_IntS x.args ≤ 1048576 := h1; omega)⟩
      rw [q] at r
      exact r
    try dsimp only
    rw [r0, Option.bind_some]
    try rfl
theorem toDecl_all : ∃ g, EntOK Try.prog (l_toDecl.ent g) ∧ TO (.n 7) w_Decl g := by
  obtain ⟨_, e0, h0⟩ := toIntS_all
  exact toDecl_ex e0 h0
theorem eqDecl_ex {gIntS : List Int → List Int → Option Bool} (eIntS : EntOK Try.prog (l_eqIntS.ent gIntS)) (hIntS : EQ (.sl .i) w_IntS gIntS) : ∃ g, EntOK Try.prog (l_eqDecl.ent g) ∧ EQ (.n 7) w_Decl g :=
  by_pick2 (fun g hg => l_eqDecl.ok (G := ⟨gIntS⟩) ⟨eIntS, trivial⟩ hg) fun x y ⟨hxy, hf, h1⟩ => by
    subst hxy
    obtain ⟨hf0, hf1⟩ := fit_Decl hf
    refine ⟨_, ⟨1, ?_⟩, rfl⟩
    unfold l_eqDecl.main
    have r0 : gIntS x.args x.args = some true := by
      obtain ⟨_, r, q⟩ := hIntS x.args x.args ⟨rfl, hf0, (by have h1 : w_IntS x.args ≤ 1048576 := h1; omega)⟩
      rw [q] at r
      exact r
    simp [sEq, r0]
theorem eqDecl_all : ∃ g, EntOK Try.prog (l_eqDecl.ent g) ∧ EQ (.n 7) w_Decl g := by
  obtain ⟨_, e0, h0⟩ := eqIntS_all
  exact eqDecl_ex e0 h0
def w_DeclS (xs : List Dc) : Nat := wL (fun x : Dc => w_Decl x) xs
theorem szDeclS_ex {gE : Dc → Int → Option Int} (eE : EntOK Try.prog (l_szDecl.ent gE)) (hE : SZ (.n 7) w_Decl gE) : ∃ g, EntOK Try.prog (l_szDeclS.ent g) ∧ SZ (.sl (.n 7)) w_DeclS g :=
  by_pick2 (fun g hg => l_szDeclS.ok (G := ⟨gE⟩) ⟨eE, trivial⟩ hg) fun (xs : List Dc) (left : Int) ⟨hf, h0, h1⟩ => by
    have hc := fit_sl.1 hf
    have hlen : xs.length ≤ 9223372036854775807 := hc.len
    have e1 : wr (left - (List.length xs : Int)) = left - (List.length xs : Int) := wr_in (by omega)
    refine ⟨_, ⟨xs.length + 1, ?_⟩, rfl⟩
    unfold l_szDeclS.main
    rw [e1]
    by_cases c1 : (List.length xs : Int) ≤ left
    · rw [decide_eq_false (by omega), cond_false]
      have key := iter_rule (body := fun v nx => l_szDeclS.b5 ⟨gE⟩ (xs.length + 1) v.1 v.2.1 v.2.2 (fun y0 y1 y2 => nx (y0, y1, y2)) (fun t4 => some (AT.one (.i t4), ([] : List Ob))) (fun left2 => some (AT.one (.i left2), []))) (Q := fun v => v.1 = xs ∧ 0 ≤ v.2.1 ∧ v.2.1 ≤ 1048576 ∧ 0 ≤ v.2.2 ∧ v.2.2 ≤ xs.length) (μ := fun v => (xs.length - v.2.2).toNat) (f := fun v => some (AT.one (.i (if (wS (fun x : Dc => w_Decl x) (xs.drop v.2.2.toNat) : Int) ≤ v.2.1 then v.2.1 - wS (fun x : Dc => w_Decl x) (xs.drop v.2.2.toNat) else -1)), [])) ?_ (xs.length + 1) (xs, left - (List.length xs : Int), 0) ⟨rfl, by simp only; omega, by simp only; omega, by simp, by simp⟩ (by simp)
      · refine Eq.trans key ?_
        simp only [Int.toNat_zero, List.drop_zero]
        have e2 : (w_DeclS xs : Int) = xs.length + wS (fun x : Dc => w_Decl x) xs := by show ((xs.length + _ : Nat) : Int) = _; omega
        by_cases c2 : (wS (fun x : Dc => w_Decl x) xs : Int) ≤ left - xs.length
        · rw [if_pos c2, if_pos (by omega)]; congr 4; omega
        · rw [if_neg c2, if_neg (by omega)]
      · rintro ⟨a, lf, i⟩ nx ⟨e0, q0, q1, q2, q3⟩ ih
        simp only at e0 q0 q1 q2 q3 ih ⊢
        subst e0
        unfold l_szDeclS.b5
        by_cases hi : i < (List.length a : Int)
        · obtain ⟨x, x1, x2, x3, _⟩ := drop_step q2 hi
          rw [decide_eq_true hi, cond_true, x1, Option.bind_some, x3, wS_cons]
          have r1 : gE x lf = some (if (w_Decl x : Int) ≤ lf then lf - w_Decl x else -1) := by
            obtain ⟨_, r, q⟩ := hE x lf ⟨hc.mem x x2, q0, q1⟩
            rw [q] at r
            exact r
          dsimp only
          rw [r1, Option.bind_some, wr_in (x := i + 1) (by omega)]
          by_cases c2 : (w_Decl x : Int) ≤ lf
          · rw [if_pos c2, decide_eq_false (by omega), cond_false]
            refine Eq.trans (ih (a, lf - (w_Decl x : Int), i + 1) ⟨rfl, by simp only; omega, by simp only; omega, by simp only; omega, by simp only; omega⟩ (by simp only; omega)) ?_
            simp only
            by_cases c3 : (wS (fun x : Dc => w_Decl x) (a.drop (i + 1).toNat) : Int) ≤ lf - (w_Decl x : Int)
            · rw [if_pos c3, if_pos (by omega)]; congr 4; omega
            · rw [if_neg c3, if_neg (by omega)]
          · rw [if_neg c2, show decide ((-1 : Int) < 0) = true from rfl, cond_true, if_neg (by omega)]
        · rw [decide_eq_false hi, cond_false, drop_all hi]
          simp only [wS, List.map_nil, List.sum_nil, Int.natCast_zero, Int.ofNat_zero, Int.sub_zero, if_pos q0]; first | done | (rw [if_pos q0]; rfl) | rfl
    · rw [decide_eq_true (by omega), cond_true, if_neg (by show ¬ ((xs.length + wS (fun x : Dc => w_Decl x) xs : Nat) : Int) ≤ left; omega)]
theorem szDeclS_all : ∃ g, EntOK Try.prog (l_szDeclS.ent g) ∧ SZ (.sl (.n 7)) w_DeclS g := by
  obtain ⟨_, e0, h0⟩ := szDecl_all
  exact szDeclS_ex e0 h0
theorem le_DeclS {xs : List Dc} (h : w_DeclS xs ≤ 1048576) : xs.length ≤ 1048576 ∧ ∀ x ∈ xs, w_Decl x ≤ 1048576 := by
  have h : xs.length + wS (fun x : Dc => w_Decl x) xs ≤ 1048576 := h
  exact ⟨by omega, fun x hx => by have : w_Decl x ≤ wS (fun x : Dc => w_Decl x) xs := wS_mem (f := fun x : Dc => w_Decl x) hx; omega⟩
theorem toDeclS_ex {gE : Dc → Option Dc} (eE : EntOK Try.prog (l_toDecl.ent gE)) (hE : TO (.n 7) w_Decl gE) : ∃ g, EntOK Try.prog (l_toDeclS.ent g) ∧ TO (.sl (.n 7)) w_DeclS g :=
  by_pick (fun g hg => l_toDeclS.ok (G := ⟨gE⟩) ⟨eE, trivial⟩ hg) fun (xs : List Dc) ⟨hf, h1⟩ => by
    have hc := fit_sl.1 hf
    have hlen : xs.length ≤ 1048576 := (le_DeclS h1).1
    refine ⟨_, ⟨xs.length + 1, ?_⟩, rfl⟩
    unfold l_toDeclS.main
    rw [mk_nat (by omega), Option.bind_some]
    refine Eq.trans (iter_rule (body := fun v nx => l_toDeclS.b3 ⟨gE⟩ (xs.length + 1) v.1 v.2.1 v.2.2 (fun y0 y1 y2 => nx (y0, y1, y2)) (fun h => some (AT.one (.l (.n 7) h), ([] : List Ob)))) (Q := fun v => v.1 = xs ∧ 0 ≤ v.2.1 ∧ v.2.1 ≤ xs.length ∧ v.2.2.length = xs.length ∧ v.2.2.take v.2.1.toNat = xs.take v.2.1.toNat) (μ := fun v => (xs.length - v.2.1).toNat) (f := fun _ => some (AT.one (.l (.n 7) xs), [])) ?_ (xs.length + 1) (xs, 0, _) ⟨rfl, by simp, by simp, by simp, by simp⟩ (by simp)) rfl
    rintro ⟨a, i, h⟩ nx ⟨e0, q0, q1, q2, q3⟩ ih
    simp only at e0 q0 q1 q2 q3 ih ⊢
    subst e0
    unfold l_toDeclS.b3
    by_cases hi : i < (List.length a : Int)
    · obtain ⟨x, x1, x2, _, x4⟩ := drop_step q0 hi
      obtain ⟨y, y1⟩ := ix_len (a := h) q0 (by omega)
      rw [decide_eq_true hi, cond_true, x1, Option.bind_some]
      have r1 : gE x = some x := by
        obtain ⟨_, r, q⟩ := hE x ⟨hc.mem x x2, (le_DeclS h1).2 x x2⟩
        rw [q] at r
        exact r
      dsimp only
      rw [r1, Option.bind_some]
      rw [y1, Option.bind_some, wr_in (x := i + 1) (by omega)]
      obtain ⟨s1, s2⟩ := set_take q0 hi q2 q3 x4
      exact ih (a, i + 1, _) ⟨rfl, by simp only; omega, by simp only; omega, s1, s2⟩ (by simp only; omega)
    · rw [decide_eq_false hi, cond_false, full_take hi q2 q3]
theorem toDeclS_all : ∃ g, EntOK Try.prog (l_toDeclS.ent g) ∧ TO (.sl (.n 7)) w_DeclS g := by
  obtain ⟨_, e0, h0⟩ := toDecl_all
  exact toDeclS_ex e0 h0
theorem eqDeclS_ex {gE : Dc → Dc → Option Bool} (eE : EntOK Try.prog (l_eqDecl.ent gE)) (hE : EQ (.n 7) w_Decl gE) : ∃ g, EntOK Try.prog (l_eqDeclS.ent g) ∧ EQ (.sl (.n 7)) w_DeclS g :=
  by_pick2 (fun g hg => l_eqDeclS.ok (G := ⟨gE⟩) ⟨eE, trivial⟩ hg) fun (xs ys : List Dc) ⟨hxy, hf, h1⟩ => by
    subst hxy
    have hc := fit_sl.1 hf
    have hlen : xs.length ≤ 1048576 := (le_DeclS h1).1
    refine ⟨_, ⟨xs.length + 1, ?_⟩, rfl⟩
    unfold l_eqDeclS.main
    rw [decide_eq_true rfl, Bool.not_true, cond_false]
    refine Eq.trans (iter_rule (body := fun v nx => l_eqDeclS.b4 ⟨gE⟩ (xs.length + 1) v.1 v.2.1 v.2.2 (fun y0 y1 y2 => nx (y0, y1, y2)) (fun t => some (AT.one (.b t), ([] : List Ob))) (some (AT.one (.b true), []))) (Q := fun v => v.1 = xs ∧ v.2.1 = xs ∧ 0 ≤ v.2.2 ∧ v.2.2 ≤ xs.length) (μ := fun v => (xs.length - v.2.2).toNat) (f := fun _ => some (AT.one (.b true), [])) ?_ (xs.length + 1) (xs, xs, 0) ⟨rfl, rfl, by simp, by simp⟩ (by simp)) rfl
    rintro ⟨a, b, i⟩ nx ⟨e1, e0, q0, q1⟩ ih
    simp only at e1 e0 q0 q1 ih ⊢
    subst e1
    subst e0
    unfold l_eqDeclS.b4
    by_cases hi : i < (List.length b : Int)
    · obtain ⟨x, x1, x2, _, x4⟩ := drop_step q0 hi
      rw [decide_eq_true hi, cond_true, x1, Option.bind_some, Option.bind_some]
      have r1 : gE x x = some true := by
        obtain ⟨_, r, q⟩ := hE x x ⟨rfl, hc.mem x x2, (le_DeclS h1).2 x x2⟩
        rw [q] at r
        exact r
      dsimp only
      rw [r1, Option.bind_some, Bool.not_true, cond_false]
      rw [wr_in (x := i + 1) (by omega)]
      exact ih (b, b, i + 1) ⟨rfl, rfl, by simp only; omega, by simp only; omega⟩ (by simp only; omega)
    · rw [decide_eq_false hi, cond_false]
theorem eqDeclS_all : ∃ g, EntOK Try.prog (l_eqDeclS.ent g) ∧ EQ (.sl (.n 7)) w_DeclS g := by
  obtain ⟨_, e0, h0⟩ := eqDecl_all
  exact eqDeclS_ex e0 h0
def w_Op (x : Opr) : Nat := x.name.size + w_DeclS x.decls
theorem fit_Op {x : Opr} (h : Fit (.n 8) x) : Fit .s x.name ∧ Fit (.sl (.n 7)) x.decls ∧ Fit .b x.assoc ∧ Fit .b x.comm ∧ Fit .i x.unit := by
  refine ⟨fun c hc => h c ?_, fun c hc => h c ?_, fun c hc => h c ?_, fun c hc => h c ?_, fun c hc => h c ?_⟩ <;> (simp only [explode, List.mem_cons, List.not_mem_nil, or_false] at hc ⊢; first | (subst hc; simp; done) | (rcases hc with rfl | rfl <;> simp; done) | (rcases hc with rfl | rfl | rfl <;> simp; done))
theorem szOp_ex {gDeclS : List Dc → Int → Option Int} (eDeclS : EntOK Try.prog (l_szDeclS.ent gDeclS)) (hDeclS : SZ (.sl (.n 7)) w_DeclS gDeclS) : ∃ g, EntOK Try.prog (l_szOp.ent g) ∧ SZ (.n 8) w_Op g :=
  by_pick2 (fun g hg => l_szOp.ok (G := ⟨gDeclS⟩) ⟨eDeclS, trivial⟩ hg) fun x left ⟨hf, h0, h1⟩ => by
    obtain ⟨hf0, hf1, hf2, hf3, hf4⟩ := fit_Op hf
    refine ⟨_, ⟨1, ?_⟩, rfl⟩
    unfold l_szOp.main
    have ew : (w_Op x : Int) = (x.name.size : Int) + (w_DeclS x.decls : Int) := by show ((x.name.size + w_DeclS x.decls : Nat) : Int) = _; omega
    have hs0 := (fit_s.1 hf0).str
    rw [wr_in (x := left - (x.name.size : Int)) (by omega)]
    by_cases c0 : (x.name.size : Int) ≤ left
    case neg => rw [decide_eq_true (by omega), cond_true, if_neg (by omega)]
    rw [decide_eq_false (by omega), cond_false]
    have r1 : gDeclS x.decls (left - (x.name.size : Int)) = some (if (w_DeclS x.decls : Int) ≤ left - (x.name.size : Int) then left - (x.name.size : Int) - (w_DeclS x.decls : Int) else -1) := by
      obtain ⟨_, r, q⟩ := hDeclS x.decls (left - (x.name.size : Int)) ⟨hf1, by omega, by omega⟩
      rw [q] at r
      exact r
    try dsimp only
    rw [r1, Option.bind_some]
    by_cases c1 : (w_DeclS x.decls : Int) ≤ left - (x.name.size : Int)
    case neg => rw [if_neg c1, show decide ((-1 : Int) < 0) = true from rfl, cond_true, if_neg (by omega)]
    rw [if_pos c1, decide_eq_false (by omega), cond_false]
    rw [if_pos (by omega)]
    first | (congr 4; done) | (congr 4; omega)
theorem szOp_all : ∃ g, EntOK Try.prog (l_szOp.ent g) ∧ SZ (.n 8) w_Op g := by
  obtain ⟨_, e0, h0⟩ := szDeclS_all
  exact szOp_ex e0 h0
theorem toOp_ex {gDeclS : List Dc → Option (List Dc)} (eDeclS : EntOK Try.prog (l_toDeclS.ent gDeclS)) (hDeclS : TO (.sl (.n 7)) w_DeclS gDeclS) : ∃ g, EntOK Try.prog (l_toOp.ent g) ∧ TO (.n 8) w_Op g :=
  by_pick (fun g hg => l_toOp.ok (G := ⟨gDeclS⟩) ⟨eDeclS, trivial⟩ hg) fun x ⟨hf, h1⟩ => by
    obtain ⟨hf0, hf1, hf2, hf3, hf4⟩ := fit_Op hf
    refine ⟨_, ⟨1, ?_⟩, rfl⟩
    unfold l_toOp.main
    have r0 : gDeclS x.decls = some x.decls := by
      obtain ⟨_, r, q⟩ := hDeclS x.decls ⟨hf1, (by have h1 : x.name.size + w_DeclS x.decls ≤ 1048576 := h1; omega)⟩
      rw [q] at r
      exact r
    try dsimp only
    rw [r0, Option.bind_some]
    try rfl
theorem toOp_all : ∃ g, EntOK Try.prog (l_toOp.ent g) ∧ TO (.n 8) w_Op g := by
  obtain ⟨_, e0, h0⟩ := toDeclS_all
  exact toOp_ex e0 h0
theorem eqOp_ex {gDeclS : List Dc → List Dc → Option Bool} (eDeclS : EntOK Try.prog (l_eqDeclS.ent gDeclS)) (hDeclS : EQ (.sl (.n 7)) w_DeclS gDeclS) : ∃ g, EntOK Try.prog (l_eqOp.ent g) ∧ EQ (.n 8) w_Op g :=
  by_pick2 (fun g hg => l_eqOp.ok (G := ⟨gDeclS⟩) ⟨eDeclS, trivial⟩ hg) fun x y ⟨hxy, hf, h1⟩ => by
    subst hxy
    obtain ⟨hf0, hf1, hf2, hf3, hf4⟩ := fit_Op hf
    refine ⟨_, ⟨1, ?_⟩, rfl⟩
    unfold l_eqOp.main
    have r0 : gDeclS x.decls x.decls = some true := by
      obtain ⟨_, r, q⟩ := hDeclS x.decls x.decls ⟨rfl, hf1, (by have h1 : x.name.size + w_DeclS x.decls ≤ 1048576 := h1; omega)⟩
      rw [q] at r
      exact r
    simp [sEq, r0]
theorem eqOp_all : ∃ g, EntOK Try.prog (l_eqOp.ent g) ∧ EQ (.n 8) w_Op g := by
  obtain ⟨_, e0, h0⟩ := eqDeclS_all
  exact eqOp_ex e0 h0
def w_OpS (xs : List Opr) : Nat := wL (fun x : Opr => w_Op x) xs
theorem szOpS_ex {gE : Opr → Int → Option Int} (eE : EntOK Try.prog (l_szOp.ent gE)) (hE : SZ (.n 8) w_Op gE) : ∃ g, EntOK Try.prog (l_szOpS.ent g) ∧ SZ (.sl (.n 8)) w_OpS g :=
  by_pick2 (fun g hg => l_szOpS.ok (G := ⟨gE⟩) ⟨eE, trivial⟩ hg) fun (xs : List Opr) (left : Int) ⟨hf, h0, h1⟩ => by
    have hc := fit_sl.1 hf
    have hlen : xs.length ≤ 9223372036854775807 := hc.len
    have e1 : wr (left - (List.length xs : Int)) = left - (List.length xs : Int) := wr_in (by omega)
    refine ⟨_, ⟨xs.length + 1, ?_⟩, rfl⟩
    unfold l_szOpS.main
    rw [e1]
    by_cases c1 : (List.length xs : Int) ≤ left
    · rw [decide_eq_false (by omega), cond_false]
      have key := iter_rule (body := fun v nx => l_szOpS.b5 ⟨gE⟩ (xs.length + 1) v.1 v.2.1 v.2.2 (fun y0 y1 y2 => nx (y0, y1, y2)) (fun t4 => some (AT.one (.i t4), ([] : List Ob))) (fun left2 => some (AT.one (.i left2), []))) (Q := fun v => v.1 = xs ∧ 0 ≤ v.2.1 ∧ v.2.1 ≤ 1048576 ∧ 0 ≤ v.2.2 ∧ v.2.2 ≤ xs.length) (μ := fun v => (xs.length - v.2.2).toNat) (f := fun v => some (AT.one (.i (if (wS (fun x : Opr => w_Op x) (xs.drop v.2.2.toNat) : Int) ≤ v.2.1 then v.2.1 - wS (fun x : Opr => w_Op x) (xs.drop v.2.2.toNat) else -1)), [])) ?_ (xs.length + 1) (xs, left - (List.length xs : Int), 0) ⟨rfl, by simp only; omega, by simp only; omega, by simp, by simp⟩ (by simp)
      · refine Eq.trans key ?_
        simp only [Int.toNat_zero, List.drop_zero]
        have e2 : (w_OpS xs : Int) = xs.length + wS (fun x : Opr => w_Op x) xs := by show ((xs.length + _ : Nat) : Int) = _; omega
        by_cases c2 : (wS (fun x : Opr => w_Op x) xs : Int) ≤ left - xs.length
        · rw [if_pos c2, if_pos (by omega)]; congr 4; omega
        · rw [if_neg c2, if_neg (by omega)]
      · rintro ⟨a, lf, i⟩ nx ⟨e0, q0, q1, q2, q3⟩ ih
        simp only at e0 q0 q1 q2 q3 ih ⊢
        subst e0
        unfold l_szOpS.b5
        by_cases hi : i < (List.length a : Int)
        · obtain ⟨x, x1, x2, x3, _⟩ := drop_step q2 hi
          rw [decide_eq_true hi, cond_true, x1, Option.bind_some, x3, wS_cons]
          have r1 : gE x lf = some (if (w_Op x : Int) ≤ lf then lf - w_Op x else -1) := by
            obtain ⟨_, r, q⟩ := hE x lf ⟨hc.mem x x2, q0, q1⟩
            rw [q] at r
            exact r
          dsimp only
          rw [r1, Option.bind_some, wr_in (x := i + 1) (by omega)]
          by_cases c2 : (w_Op x : Int) ≤ lf
          · rw [if_pos c2, decide_eq_false (by omega), cond_false]
            refine Eq.trans (ih (a, lf - (w_Op x : Int), i + 1) ⟨rfl, by simp only; omega, by simp only; omega, by simp only; omega, by simp only; omega⟩ (by simp only; omega)) ?_
            simp only
            by_cases c3 : (wS (fun x : Opr => w_Op x) (a.drop (i + 1).toNat) : Int) ≤ lf - (w_Op x : Int)
            · rw [if_pos c3, if_pos (by omega)]; congr 4; omega
            · rw [if_neg c3, if_neg (by omega)]
          · rw [if_neg c2, show decide ((-1 : Int) < 0) = true from rfl, cond_true, if_neg (by omega)]
        · rw [decide_eq_false hi, cond_false, drop_all hi]
          simp only [wS, List.map_nil, List.sum_nil, Int.natCast_zero, Int.ofNat_zero, Int.sub_zero, if_pos q0]; first | done | (rw [if_pos q0]; rfl) | rfl
    · rw [decide_eq_true (by omega), cond_true, if_neg (by show ¬ ((xs.length + wS (fun x : Opr => w_Op x) xs : Nat) : Int) ≤ left; omega)]
theorem szOpS_all : ∃ g, EntOK Try.prog (l_szOpS.ent g) ∧ SZ (.sl (.n 8)) w_OpS g := by
  obtain ⟨_, e0, h0⟩ := szOp_all
  exact szOpS_ex e0 h0
theorem le_OpS {xs : List Opr} (h : w_OpS xs ≤ 1048576) : xs.length ≤ 1048576 ∧ ∀ x ∈ xs, w_Op x ≤ 1048576 := by
  have h : xs.length + wS (fun x : Opr => w_Op x) xs ≤ 1048576 := h
  exact ⟨by omega, fun x hx => by have : w_Op x ≤ wS (fun x : Opr => w_Op x) xs := wS_mem (f := fun x : Opr => w_Op x) hx; omega⟩
theorem toOpS_ex {gE : Opr → Option Opr} (eE : EntOK Try.prog (l_toOp.ent gE)) (hE : TO (.n 8) w_Op gE) : ∃ g, EntOK Try.prog (l_toOpS.ent g) ∧ TO (.sl (.n 8)) w_OpS g :=
  by_pick (fun g hg => l_toOpS.ok (G := ⟨gE⟩) ⟨eE, trivial⟩ hg) fun (xs : List Opr) ⟨hf, h1⟩ => by
    have hc := fit_sl.1 hf
    have hlen : xs.length ≤ 1048576 := (le_OpS h1).1
    refine ⟨_, ⟨xs.length + 1, ?_⟩, rfl⟩
    unfold l_toOpS.main
    rw [mk_nat (by omega), Option.bind_some]
    refine Eq.trans (iter_rule (body := fun v nx => l_toOpS.b3 ⟨gE⟩ (xs.length + 1) v.1 v.2.1 v.2.2 (fun y0 y1 y2 => nx (y0, y1, y2)) (fun h => some (AT.one (.l (.n 8) h), ([] : List Ob)))) (Q := fun v => v.1 = xs ∧ 0 ≤ v.2.1 ∧ v.2.1 ≤ xs.length ∧ v.2.2.length = xs.length ∧ v.2.2.take v.2.1.toNat = xs.take v.2.1.toNat) (μ := fun v => (xs.length - v.2.1).toNat) (f := fun _ => some (AT.one (.l (.n 8) xs), [])) ?_ (xs.length + 1) (xs, 0, _) ⟨rfl, by simp, by simp, by simp, by simp⟩ (by simp)) rfl
    rintro ⟨a, i, h⟩ nx ⟨e0, q0, q1, q2, q3⟩ ih
    simp only at e0 q0 q1 q2 q3 ih ⊢
    subst e0
    unfold l_toOpS.b3
    by_cases hi : i < (List.length a : Int)
    · obtain ⟨x, x1, x2, _, x4⟩ := drop_step q0 hi
      obtain ⟨y, y1⟩ := ix_len (a := h) q0 (by omega)
      rw [decide_eq_true hi, cond_true, x1, Option.bind_some]
      have r1 : gE x = some x := by
        obtain ⟨_, r, q⟩ := hE x ⟨hc.mem x x2, (le_OpS h1).2 x x2⟩
        rw [q] at r
        exact r
      dsimp only
      rw [r1, Option.bind_some]
      rw [y1, Option.bind_some, wr_in (x := i + 1) (by omega)]
      obtain ⟨s1, s2⟩ := set_take q0 hi q2 q3 x4
      exact ih (a, i + 1, _) ⟨rfl, by simp only; omega, by simp only; omega, s1, s2⟩ (by simp only; omega)
    · rw [decide_eq_false hi, cond_false, full_take hi q2 q3]
theorem toOpS_all : ∃ g, EntOK Try.prog (l_toOpS.ent g) ∧ TO (.sl (.n 8)) w_OpS g := by
  obtain ⟨_, e0, h0⟩ := toOp_all
  exact toOpS_ex e0 h0
theorem eqOpS_ex {gE : Opr → Opr → Option Bool} (eE : EntOK Try.prog (l_eqOp.ent gE)) (hE : EQ (.n 8) w_Op gE) : ∃ g, EntOK Try.prog (l_eqOpS.ent g) ∧ EQ (.sl (.n 8)) w_OpS g :=
  by_pick2 (fun g hg => l_eqOpS.ok (G := ⟨gE⟩) ⟨eE, trivial⟩ hg) fun (xs ys : List Opr) ⟨hxy, hf, h1⟩ => by
    subst hxy
    have hc := fit_sl.1 hf
    have hlen : xs.length ≤ 1048576 := (le_OpS h1).1
    refine ⟨_, ⟨xs.length + 1, ?_⟩, rfl⟩
    unfold l_eqOpS.main
    rw [decide_eq_true rfl, Bool.not_true, cond_false]
    refine Eq.trans (iter_rule (body := fun v nx => l_eqOpS.b4 ⟨gE⟩ (xs.length + 1) v.1 v.2.1 v.2.2 (fun y0 y1 y2 => nx (y0, y1, y2)) (fun t => some (AT.one (.b t), ([] : List Ob))) (some (AT.one (.b true), []))) (Q := fun v => v.1 = xs ∧ v.2.1 = xs ∧ 0 ≤ v.2.2 ∧ v.2.2 ≤ xs.length) (μ := fun v => (xs.length - v.2.2).toNat) (f := fun _ => some (AT.one (.b true), [])) ?_ (xs.length + 1) (xs, xs, 0) ⟨rfl, rfl, by simp, by simp⟩ (by simp)) rfl
    rintro ⟨a, b, i⟩ nx ⟨e1, e0, q0, q1⟩ ih
    simp only at e1 e0 q0 q1 ih ⊢
    subst e1
    subst e0
    unfold l_eqOpS.b4
    by_cases hi : i < (List.length b : Int)
    · obtain ⟨x, x1, x2, _, x4⟩ := drop_step q0 hi
      rw [decide_eq_true hi, cond_true, x1, Option.bind_some, Option.bind_some]
      have r1 : gE x x = some true := by
        obtain ⟨_, r, q⟩ := hE x x ⟨rfl, hc.mem x x2, (le_OpS h1).2 x x2⟩
        rw [q] at r
        exact r
      dsimp only
      rw [r1, Option.bind_some, Bool.not_true, cond_false]
      rw [wr_in (x := i + 1) (by omega)]
      exact ih (b, b, i + 1) ⟨rfl, rfl, by simp only; omega, by simp only; omega⟩ (by simp only; omega)
    · rw [decide_eq_false hi, cond_false]
theorem eqOpS_all : ∃ g, EntOK Try.prog (l_eqOpS.ent g) ∧ EQ (.sl (.n 8)) w_OpS g := by
  obtain ⟨_, e0, h0⟩ := eqOp_all
  exact eqOpS_ex e0 h0
def w_Sorts (x : So) : Nat := w_StringS x.names + w_SubS x.subs
theorem fit_Sorts {x : So} (h : Fit (.n 6) x) : Fit (.sl .s) x.names ∧ Fit (.sl (.n 5)) x.subs := by
  refine ⟨fun c hc => h c ?_, fun c hc => h c ?_⟩ <;> (simp only [explode, List.mem_cons, List.not_mem_nil, or_false] at hc ⊢; first | (subst hc; simp; done) | (rcases hc with rfl | rfl <;> simp; done) | (rcases hc with rfl | rfl | rfl <;> simp; done))
theorem szSorts_ex {gStringS : List ByteArray → Int → Option Int} (eStringS : EntOK Try.prog (l_szStringS.ent gStringS)) (hStringS : SZ (.sl .s) w_StringS gStringS) {gSubS : List Sb → Int → Option Int} (eSubS : EntOK Try.prog (l_szSubS.ent gSubS)) (hSubS : SZ (.sl (.n 5)) w_SubS gSubS) : ∃ g, EntOK Try.prog (l_szSorts.ent g) ∧ SZ (.n 6) w_Sorts g :=
  by_pick2 (fun g hg => l_szSorts.ok (G := ⟨gStringS, gSubS⟩) ⟨eStringS, eSubS, trivial⟩ hg) fun x left ⟨hf, h0, h1⟩ => by
    obtain ⟨hf0, hf1⟩ := fit_Sorts hf
    refine ⟨_, ⟨1, ?_⟩, rfl⟩
    unfold l_szSorts.main
    have ew : (w_Sorts x : Int) = (w_StringS x.names : Int) + (w_SubS x.subs : Int) := by show ((w_StringS x.names + w_SubS x.subs : Nat) : Int) = _; omega
    have r0 : gStringS x.names (left) = some (if (w_StringS x.names : Int) ≤ left then left - (w_StringS x.names : Int) else -1) := by
      obtain ⟨_, r, q⟩ := hStringS x.names (left) ⟨hf0, by omega, by omega⟩
      rw [q] at r
      exact r
    try dsimp only
    rw [r0, Option.bind_some]
    by_cases c0 : (w_StringS x.names : Int) ≤ left
    case neg => rw [if_neg c0, show decide ((-1 : Int) < 0) = true from rfl, cond_true, if_neg (by omega)]
    rw [if_pos c0, decide_eq_false (by omega), cond_false]
    have r1 : gSubS x.subs (left - (w_StringS x.names : Int)) = some (if (w_SubS x.subs : Int) ≤ left - (w_StringS x.names : Int) then left - (w_StringS x.names : Int) - (w_SubS x.subs : Int) else -1) := by
      obtain ⟨_, r, q⟩ := hSubS x.subs (left - (w_StringS x.names : Int)) ⟨hf1, by omega, by omega⟩
      rw [q] at r
      exact r
    try dsimp only
    rw [r1, Option.bind_some]
    by_cases c1 : (w_SubS x.subs : Int) ≤ left - (w_StringS x.names : Int)
    case neg => rw [if_neg c1, show decide ((-1 : Int) < 0) = true from rfl, cond_true, if_neg (by omega)]
    rw [if_pos c1, decide_eq_false (by omega), cond_false]
    rw [if_pos (by omega)]
    first | (congr 4; done) | (congr 4; omega)
theorem szSorts_all : ∃ g, EntOK Try.prog (l_szSorts.ent g) ∧ SZ (.n 6) w_Sorts g := by
  obtain ⟨_, e0, h0⟩ := szStringS_all
  obtain ⟨_, e1, h1⟩ := szSubS_all
  exact szSorts_ex e0 h0 e1 h1
theorem toSorts_ex {gStringS : List ByteArray → Option (List ByteArray)} (eStringS : EntOK Try.prog (l_toStringS.ent gStringS)) (hStringS : TO (.sl .s) w_StringS gStringS) {gSubS : List Sb → Option (List Sb)} (eSubS : EntOK Try.prog (l_toSubS.ent gSubS)) (hSubS : TO (.sl (.n 5)) w_SubS gSubS) : ∃ g, EntOK Try.prog (l_toSorts.ent g) ∧ TO (.n 6) w_Sorts g :=
  by_pick (fun g hg => l_toSorts.ok (G := ⟨gStringS, gSubS⟩) ⟨eStringS, eSubS, trivial⟩ hg) fun x ⟨hf, h1⟩ => by
    obtain ⟨hf0, hf1⟩ := fit_Sorts hf
    refine ⟨_, ⟨1, ?_⟩, rfl⟩
    unfold l_toSorts.main
    have r0 : gStringS x.names = some x.names := by
      obtain ⟨_, r, q⟩ := hStringS x.names ⟨hf0, (by have h1 : w_StringS x.names + w_SubS x.subs ≤ 1048576 := h1; omega)⟩
      rw [q] at r
      exact r
    try dsimp only
    rw [r0, Option.bind_some]
    have r1 : gSubS x.subs = some x.subs := by
      obtain ⟨_, r, q⟩ := hSubS x.subs ⟨hf1, (by have h1 : w_StringS x.names + w_SubS x.subs ≤ 1048576 := h1; omega)⟩
      rw [q] at r
      exact r
    try dsimp only
    rw [r1, Option.bind_some]
    try rfl
theorem toSorts_all : ∃ g, EntOK Try.prog (l_toSorts.ent g) ∧ TO (.n 6) w_Sorts g := by
  obtain ⟨_, e0, h0⟩ := toStringS_all
  obtain ⟨_, e1, h1⟩ := toSubS_all
  exact toSorts_ex e0 h0 e1 h1
theorem eqSorts_ex {gStringS : List ByteArray → List ByteArray → Option Bool} (eStringS : EntOK Try.prog (l_eqStringS.ent gStringS)) (hStringS : EQ (.sl .s) w_StringS gStringS) {gSubS : List Sb → List Sb → Option Bool} (eSubS : EntOK Try.prog (l_eqSubS.ent gSubS)) (hSubS : EQ (.sl (.n 5)) w_SubS gSubS) : ∃ g, EntOK Try.prog (l_eqSorts.ent g) ∧ EQ (.n 6) w_Sorts g :=
  by_pick2 (fun g hg => l_eqSorts.ok (G := ⟨gStringS, gSubS⟩) ⟨eStringS, eSubS, trivial⟩ hg) fun x y ⟨hxy, hf, h1⟩ => by
    subst hxy
    obtain ⟨hf0, hf1⟩ := fit_Sorts hf
    refine ⟨_, ⟨1, ?_⟩, rfl⟩
    unfold l_eqSorts.main
    have r0 : gStringS x.names x.names = some true := by
      obtain ⟨_, r, q⟩ := hStringS x.names x.names ⟨rfl, hf0, (by have h1 : w_StringS x.names + w_SubS x.subs ≤ 1048576 := h1; omega)⟩
      rw [q] at r
      exact r
    have r1 : gSubS x.subs x.subs = some true := by
      obtain ⟨_, r, q⟩ := hSubS x.subs x.subs ⟨rfl, hf1, (by have h1 : w_StringS x.names + w_SubS x.subs ≤ 1048576 := h1; omega)⟩
      rw [q] at r
      exact r
    simp [sEq, r0, r1]
theorem eqSorts_all : ∃ g, EntOK Try.prog (l_eqSorts.ent g) ∧ EQ (.n 6) w_Sorts g := by
  obtain ⟨_, e0, h0⟩ := eqStringS_all
  obtain ⟨_, e1, h1⟩ := eqSubS_all
  exact eqSorts_ex e0 h0 e1 h1
def w_Signature (x : Sg) : Nat := w_Sorts x.sorts + w_OpS x.ops
theorem fit_Signature {x : Sg} (h : Fit (.n 9) x) : Fit (.n 6) x.sorts ∧ Fit (.sl (.n 8)) x.ops := by
  refine ⟨fun c hc => h c ?_, fun c hc => h c ?_⟩ <;> (simp only [explode, List.mem_cons, List.not_mem_nil, or_false] at hc ⊢; first | (subst hc; simp; done) | (rcases hc with rfl | rfl <;> simp; done) | (rcases hc with rfl | rfl | rfl <;> simp; done))
theorem szSignature_ex {gSorts : So → Int → Option Int} (eSorts : EntOK Try.prog (l_szSorts.ent gSorts)) (hSorts : SZ (.n 6) w_Sorts gSorts) {gOpS : List Opr → Int → Option Int} (eOpS : EntOK Try.prog (l_szOpS.ent gOpS)) (hOpS : SZ (.sl (.n 8)) w_OpS gOpS) : ∃ g, EntOK Try.prog (l_szSignature.ent g) ∧ SZ (.n 9) w_Signature g :=
  by_pick2 (fun g hg => l_szSignature.ok (G := ⟨gSorts, gOpS⟩) ⟨eSorts, eOpS, trivial⟩ hg) fun x left ⟨hf, h0, h1⟩ => by
    obtain ⟨hf0, hf1⟩ := fit_Signature hf
    refine ⟨_, ⟨1, ?_⟩, rfl⟩
    unfold l_szSignature.main
    have ew : (w_Signature x : Int) = (w_Sorts x.sorts : Int) + (w_OpS x.ops : Int) := by show ((w_Sorts x.sorts + w_OpS x.ops : Nat) : Int) = _; omega
    have r0 : gSorts x.sorts (left) = some (if (w_Sorts x.sorts : Int) ≤ left then left - (w_Sorts x.sorts : Int) else -1) := by
      obtain ⟨_, r, q⟩ := hSorts x.sorts (left) ⟨hf0, by omega, by omega⟩
      rw [q] at r
      exact r
    try dsimp only
    rw [r0, Option.bind_some]
    by_cases c0 : (w_Sorts x.sorts : Int) ≤ left
    case neg => rw [if_neg c0, show decide ((-1 : Int) < 0) = true from rfl, cond_true, if_neg (by omega)]
    rw [if_pos c0, decide_eq_false (by omega), cond_false]
    have r1 : gOpS x.ops (left - (w_Sorts x.sorts : Int)) = some (if (w_OpS x.ops : Int) ≤ left - (w_Sorts x.sorts : Int) then left - (w_Sorts x.sorts : Int) - (w_OpS x.ops : Int) else -1) := by
      obtain ⟨_, r, q⟩ := hOpS x.ops (left - (w_Sorts x.sorts : Int)) ⟨hf1, by omega, by omega⟩
      rw [q] at r
      exact r
    try dsimp only
    rw [r1, Option.bind_some]
    by_cases c1 : (w_OpS x.ops : Int) ≤ left - (w_Sorts x.sorts : Int)
    case neg => rw [if_neg c1, show decide ((-1 : Int) < 0) = true from rfl, cond_true, if_neg (by omega)]
    rw [if_pos c1, decide_eq_false (by omega), cond_false]
    rw [if_pos (by omega)]
    first | (congr 4; done) | (congr 4; omega)
theorem szSignature_all : ∃ g, EntOK Try.prog (l_szSignature.ent g) ∧ SZ (.n 9) w_Signature g := by
  obtain ⟨_, e0, h0⟩ := szSorts_all
  obtain ⟨_, e1, h1⟩ := szOpS_all
  exact szSignature_ex e0 h0 e1 h1
theorem toSignature_ex {gSorts : So → Option (So)} (eSorts : EntOK Try.prog (l_toSorts.ent gSorts)) (hSorts : TO (.n 6) w_Sorts gSorts) {gOpS : List Opr → Option (List Opr)} (eOpS : EntOK Try.prog (l_toOpS.ent gOpS)) (hOpS : TO (.sl (.n 8)) w_OpS gOpS) : ∃ g, EntOK Try.prog (l_toSignature.ent g) ∧ TO (.n 9) w_Signature g :=
  by_pick (fun g hg => l_toSignature.ok (G := ⟨gSorts, gOpS⟩) ⟨eSorts, eOpS, trivial⟩ hg) fun x ⟨hf, h1⟩ => by
    obtain ⟨hf0, hf1⟩ := fit_Signature hf
    refine ⟨_, ⟨1, ?_⟩, rfl⟩
    unfold l_toSignature.main
    have r0 : gSorts x.sorts = some x.sorts := by
      obtain ⟨_, r, q⟩ := hSorts x.sorts ⟨hf0, (by have h1 : w_Sorts x.sorts + w_OpS x.ops ≤ 1048576 := h1; omega)⟩
      rw [q] at r
      exact r
    try dsimp only
    rw [r0, Option.bind_some]
    have r1 : gOpS x.ops = some x.ops := by
      obtain ⟨_, r, q⟩ := hOpS x.ops ⟨hf1, (by have h1 : w_Sorts x.sorts + w_OpS x.ops ≤ 1048576 := h1; omega)⟩
      rw [q] at r
      exact r
    try dsimp only
    rw [r1, Option.bind_some]
    try rfl
theorem toSignature_all : ∃ g, EntOK Try.prog (l_toSignature.ent g) ∧ TO (.n 9) w_Signature g := by
  obtain ⟨_, e0, h0⟩ := toSorts_all
  obtain ⟨_, e1, h1⟩ := toOpS_all
  exact toSignature_ex e0 h0 e1 h1
theorem eqSignature_ex {gSorts : So → So → Option Bool} (eSorts : EntOK Try.prog (l_eqSorts.ent gSorts)) (hSorts : EQ (.n 6) w_Sorts gSorts) {gOpS : List Opr → List Opr → Option Bool} (eOpS : EntOK Try.prog (l_eqOpS.ent gOpS)) (hOpS : EQ (.sl (.n 8)) w_OpS gOpS) : ∃ g, EntOK Try.prog (l_eqSignature.ent g) ∧ EQ (.n 9) w_Signature g :=
  by_pick2 (fun g hg => l_eqSignature.ok (G := ⟨gSorts, gOpS⟩) ⟨eSorts, eOpS, trivial⟩ hg) fun x y ⟨hxy, hf, h1⟩ => by
    subst hxy
    obtain ⟨hf0, hf1⟩ := fit_Signature hf
    refine ⟨_, ⟨1, ?_⟩, rfl⟩
    unfold l_eqSignature.main
    have r0 : gSorts x.sorts x.sorts = some true := by
      obtain ⟨_, r, q⟩ := hSorts x.sorts x.sorts ⟨rfl, hf0, (by have h1 : w_Sorts x.sorts + w_OpS x.ops ≤ 1048576 := h1; omega)⟩
      rw [q] at r
      exact r
    have r1 : gOpS x.ops x.ops = some true := by
      obtain ⟨_, r, q⟩ := hOpS x.ops x.ops ⟨rfl, hf1, (by have h1 : w_Sorts x.sorts + w_OpS x.ops ≤ 1048576 := h1; omega)⟩
      rw [q] at r
      exact r
    simp [sEq, r0, r1]
theorem eqSignature_all : ∃ g, EntOK Try.prog (l_eqSignature.ent g) ∧ EQ (.n 9) w_Signature g := by
  obtain ⟨_, e0, h0⟩ := eqSorts_all
  obtain ⟨_, e1, h1⟩ := eqOpS_all
  exact eqSignature_ex e0 h0 e1 h1
end Go.Proofs.Ytjafncnjefnloaa.Den

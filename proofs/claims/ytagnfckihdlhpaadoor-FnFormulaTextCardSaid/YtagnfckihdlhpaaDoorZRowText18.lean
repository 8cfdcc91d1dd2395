/-
  Functions of the program, by den. Printed by wip/den/dp.py.
-/
import Derived.Test.YtagnfckihdlhpaaDoorZRowText10
namespace Go.Proofs.YtagnfckihdlhpaaDoor.Den
open Go.RowKit
set_option maxRecDepth 100000
set_option linter.unusedVariables false
namespace l_eqFormulaS
structure Gs where
  l_eqFormula : Fm → Fm → Option (Bool)
noncomputable def ents (G : Gs) : List Ent := [l_eqFormula.ent G.l_eqFormula]
noncomputable def b4 {R : Type} (G : Gs) (n : Nat) (a : List Fm) (b : List Fm) (i : Int) (nx : List Fm → List Fm → Int → Option R) (k0 : Bool → Option R) (k1 : Option R) : Option R :=
  bif decide (i < (List.length a : Int)) then
    (
    Option.bind (ix a i) fun e2 =>
    Option.bind (ix b i) fun e4 =>
    Option.bind (G.l_eqFormula (Fm.mk (Fm.kind e2) (Fm.prop e2) (Fm.kids e2)) (Fm.mk (Fm.kind e4) (Fm.prop e4) (Fm.kids e4))) fun r2 =>
    bif !r2 then
      (k0 false)
    else
      nx a b (wr (i + 1))
    )
  else
    k1
noncomputable def l4 {R : Type} (G : Gs) (n m : Nat) (a : List Fm) (b : List Fm) (i : Int) (k0 : Bool → Option R) (k1 : Option R) : Option R := iter (fun (v : List Fm × List Fm × Int) nx => b4 G n v.1 v.2.1 v.2.2 (fun y0 y1 y2 => nx (y0, y1, y2)) k0 k1) m (a, b, i)
noncomputable def main {R : Type} (G : Gs) (n : Nat) (a : List Fm) (b : List Fm) (K : Bool → Option R) : Option R :=
  bif !decide ((List.length a : Int) = (List.length b : Int)) then
    (K false)
  else
    l4 G n n a b 0
      (fun t4 => K t4)
      ( K true)
noncomputable def dl4 (G : Gs) (n m : Nat) (R : Type) (st : St) (K : Kt R) : Option R := match st with
  | ⟨[(0, .one (.l (.n 2) a)), (1, .one (.l (.n 2) b)), (5, .one (.i i))], []⟩ => l4 G n m a b i (fun t4 => K .ret ⟨[(4, .one (.b t4))], []⟩) (K (.exit 0) ⟨[], []⟩)
  | _ => none
noncomputable def pc (G : Gs) (n : Nat) : Pcs := ⟨fun R id st K => bif Nat.beq id 4 then dl4 G n n R st K else none, fun _ _ _ _ => none, fun _ _ _ _ => none⟩
noncomputable def an : Ann := ⟨27, 0, [(4, [0, 1, 5])], [], [4], [(6, ⟨[([0, 1, 2, 3, 4, 5, 6, 7, 8, 9], [], [])], [], [], [], []⟩)]⟩
theorem s4 (G : Gs) (n m : Nat) (R : Type) (a : List Fm) (b : List Fm) (i : Int) (K : Kt R) : den tb (orcOf (ents G)) (pc G n) an (nthC [1, 1, 0, 1, 0, 0] (bodyOf Tryd.f20)) ⟨[(0, .one (.l (.n 2) a)), (1, .one (.l (.n 2) b)), (5, .one (.i i))], []⟩ (roundK an.refs [0, 1, 5] ⟨[], [4], [(0, [])]⟩ (fun st => dl4 G n m R st K) K) = dl4 G n (m + 1) R ⟨[(0, .one (.l (.n 2) a)), (1, .one (.l (.n 2) b)), (5, .one (.i i))], []⟩ K := by kernel_rfl
theorem pl4 {G : Gs} (hG : AllE Tryd.prog (ents G)) (n : Nat) : ∀ m, PieceOK Tryd.prog an (.loop (nthC [1, 1, 0, 1, 0, 0] (bodyOf Tryd.f20))) (dl4 G n m) := by
  refine loop_piece mixed tb_ok (orc_ok hG) (pc := pc G n) (lv := [0, 1, 5]) (o := ⟨[], [4], [(0, [])]⟩) (by
    have h : pieces an (nthC [1, 1, 0, 1, 0, 0] (bodyOf Tryd.f20)) = [] := by kernel_rfl
    rw [h]
    exact trivial) (fun R st K => ?_) (fun m R st K r h => ?_)
  · unfold dl4; split <;> rfl
  · have e := h
    unfold dl4 at e
    split at e
    · rename_i x0 x1 x2; exact (s4 G n m R x0 x1 x2 K).trans h
    · cases e
theorem allp {G : Gs} (hG : AllE Tryd.prog (ents G)) (n : Nat) : AllP Tryd.prog an (pc G n) (pieces an (bodyOf Tryd.f20)) := by
    have h : pieces an (bodyOf Tryd.f20) = [(1, 4, .loop (nthC [1, 1, 0, 1, 0, 0] (bodyOf Tryd.f20)))] := by kernel_rfl
    rw [h]
    exact ⟨pl4 hG n n, trivial⟩
/-- What the function computes. -/
noncomputable def Does (G : Gs) (a : List Fm) (b : List Fm) (r : Bool) : Prop := ∃ n, main (R := AT × List Ob) G n a b (fun r0 => some (.one (.b r0), [])) = some (.one (.b r), [])
theorem eq (G : Gs) (n : Nat) (a : List Fm) (b : List Fm) : den tb (orcOf (ents G)) (pc G n) an (bodyOf Tryd.f20) ⟨argsD 0 [.one (.l (.n 2) a), .one (.l (.n 2) b)], []⟩ (atEnd (finF tb an [.tmp 4])) = main (R := AT × List Ob) G n a b (fun r0 => some (.one (.b r0), [])) := by kernel_rfl
theorem ok {G : Gs} (hG : AllE Tryd.prog (ents G)) {g : List Fm → List Fm → Option (Bool)} (hg : ∀ a b r, g a b = some r → Does G a b r) : EntOK Tryd.prog (ent g) := fun R xs H K r hc => by
  simp only [ent] at hc
  split at hc
  · rename_i a a2
    obtain ⟨r, q1, q2⟩ := bind_some hc
    obtain ⟨n, q3⟩ := hg a a2 _ q1
    exact ⟨_, _, q2, fn_of_den (pc := pc G n) (an := an) (xs := [.one (.l (.n 2) a), .one (.l (.n 2) a2)]) (H := []) (fin := finF tb an [.tmp 4]) mixed tb_ok (orc_ok hG) (fn := Tryd.f20) (c := bodyOf Tryd.f20) Tryd.func20 (by kernel_rfl) (by kernel_rfl) (by kernel_rfl) (by kernel_rfl) (by kernel_rfl) (rs := [.tmp 4]) (by kernel_rfl) (.inl rfl) (allp hG n) ((eq G n a a2).trans q3)⟩
  · cases hc
end l_eqFormulaS
namespace l_eqFormula
structure Gs where
  l_eqFormulaS : List Fm → List Fm → Option (Bool)
noncomputable def ents (G : Gs) : List Ent := [l_eqFormulaS.ent G.l_eqFormulaS]
noncomputable def main {R : Type} (G : Gs) (n : Nat) (a : Fm) (b : Fm) (K : Bool → Option R) : Option R :=
  bif !decide ((Fm.kind a) = (Fm.kind b)) then
    (K false)
  else
    bif !decide ((Fm.prop a) = (Fm.prop b)) then
      (K false)
    else
      Option.bind (G.l_eqFormulaS (Fm.kids a) (Fm.kids b)) fun r =>
      bif !r then
        (K false)
      else
        K true
noncomputable def pc (_ : Gs) (_ : Nat) : Pcs := ⟨fun _ _ _ _ => none, fun _ _ _ _ => none, fun _ _ _ _ => none⟩
noncomputable def an : Ann := ⟨21, 0, [], [], [4], []⟩
theorem allp {G : Gs} (hG : AllE Tryd.prog (ents G)) (n : Nat) : AllP Tryd.prog an (pc G n) (pieces an (bodyOf Tryd.f9)) := by
    have h : pieces an (bodyOf Tryd.f9) = [] := by kernel_rfl
    rw [h]
    exact trivial
/-- What the function computes. -/
noncomputable def Does (G : Gs) (a : Fm) (b : Fm) (r : Bool) : Prop := ∃ n, main (R := AT × List Ob) G n a b (fun r0 => some (.one (.b r0), [])) = some (.one (.b r), [])
theorem eq (G : Gs) (n : Nat) (a : Fm) (b : Fm) : den tb (orcOf (ents G)) (pc G n) an (bodyOf Tryd.f9) ⟨argsD 0 [.agg [.i (Fm.kind a), .i (Fm.prop a), .l (.n 2) (Fm.kids a)], .agg [.i (Fm.kind b), .i (Fm.prop b), .l (.n 2) (Fm.kids b)]], []⟩ (atEnd (finF tb an [.tmp 4])) = main (R := AT × List Ob) G n a b (fun r0 => some (.one (.b r0), [])) := by kernel_rfl
theorem ok {G : Gs} (hG : AllE Tryd.prog (ents G)) {g : Fm → Fm → Option (Bool)} (hg : ∀ a b r, g a b = some r → Does G a b r) : EntOK Tryd.prog (ent g) := fun R xs H K r hc => by
  simp only [ent] at hc
  split at hc
  · rename_i a a2 a3 a4 a5 a6
    obtain ⟨r, q1, q2⟩ := bind_some hc
    obtain ⟨n, q3⟩ := hg (Fm.mk a a2 a3) (Fm.mk a4 a5 a6) _ q1
    exact ⟨_, _, q2, fn_of_den (pc := pc G n) (an := an) (xs := [.agg [.i a, .i a2, .l (.n 2) a3], .agg [.i a4, .i a5, .l (.n 2) a6]]) (H := []) (fin := finF tb an [.tmp 4]) mixed tb_ok (orc_ok hG) (fn := Tryd.f9) (c := bodyOf Tryd.f9) Tryd.func9 (by kernel_rfl) (by kernel_rfl) (by kernel_rfl) (by kernel_rfl) (by kernel_rfl) (rs := [.tmp 4]) (by kernel_rfl) (.inl rfl) (allp hG n) ((eq G n (Fm.mk a a2 a3) (Fm.mk a4 a5 a6)).trans q3)⟩
  · cases hc
end l_eqFormula
namespace l_toFormulaS
structure Gs where
  l_toFormula : Fm → Option (Fm)
noncomputable def ents (G : Gs) : List Ent := [l_toFormula.ent G.l_toFormula]
noncomputable def b3 {R : Type} (G : Gs) (n : Nat) (a : List Fm) (i : Int) (h0 : List Fm) (nx : List Fm → Int → List Fm → Option R) (k0 : List Fm → Option R) : Option R :=
  bif decide (i < (List.length a : Int)) then
    (
    Option.bind (ix a i) fun e =>
    Option.bind (G.l_toFormula (Fm.mk (Fm.kind e) (Fm.prop e) (Fm.kids e))) fun r =>
    Option.bind (ix h0 i) fun e2 =>
    nx a (wr (i + 1)) (List.set h0 (Int.toNat i) (Fm.mk (Fm.kind r) (Fm.prop r) (Fm.kids r)))
    )
  else
    k0 h0
noncomputable def l3 {R : Type} (G : Gs) (n m : Nat) (a : List Fm) (i : Int) (h0 : List Fm) (k0 : List Fm → Option R) : Option R := iter (fun (v : List Fm × Int × List Fm) nx => b3 G n v.1 v.2.1 v.2.2 (fun y0 y1 y2 => nx (y0, y1, y2)) k0) m (a, i, h0)
noncomputable def main {R : Type} (G : Gs) (n : Nat) (a : List Fm) (K : List Fm → Option R) : Option R :=
  Option.bind (mk (α := Fm) (Fm.mk 0 0 []) (List.length a : Int)) fun xs =>
  l3 G n n a 0 xs
    (fun h0 => K h0)
noncomputable def dl3 (G : Gs) (n m : Nat) (R : Type) (st : St) (K : Kt R) : Option R := match st with
  | ⟨[(0, .one (.l (.n 2) a)), (3, .one (.o 0)), (4, .one (.i i))], [.row (.n 2) 0 h0]⟩ => l3 G n m a i h0 (fun h0 => K (.exit 0) ⟨[(3, .one (.o 0))], [.row (.n 2) 0 h0]⟩)
  | _ => none
noncomputable def pc (G : Gs) (n : Nat) : Pcs := ⟨fun R id st K => bif Nat.beq id 3 then dl3 G n n R st K else none, fun _ _ _ _ => none, fun _ _ _ _ => none⟩
noncomputable def an : Ann := ⟨23, 0, [(3, [0, 3, 4])], [], [2], []⟩
theorem s3 (G : Gs) (n m : Nat) (R : Type) (a : List Fm) (i : Int) (h0 : List Fm) (K : Kt R) : den tb (orcOf (ents G)) (pc G n) an (nthC [1, 1, 0, 1, 0, 0] (bodyOf Tryd.f17)) ⟨[(0, .one (.l (.n 2) a)), (3, .one (.o 0)), (4, .one (.i i))], [.row (.n 2) 0 h0]⟩ (roundK an.refs [0, 3, 4] ⟨[3], [2], [(0, [3])]⟩ (fun st => dl3 G n m R st K) K) = dl3 G n (m + 1) R ⟨[(0, .one (.l (.n 2) a)), (3, .one (.o 0)), (4, .one (.i i))], [.row (.n 2) 0 h0]⟩ K := by kernel_rfl
theorem pl3 {G : Gs} (hG : AllE Tryd.prog (ents G)) (n : Nat) : ∀ m, PieceOK Tryd.prog an (.loop (nthC [1, 1, 0, 1, 0, 0] (bodyOf Tryd.f17))) (dl3 G n m) := by
  refine loop_piece mixed tb_ok (orc_ok hG) (pc := pc G n) (lv := [0, 3, 4]) (o := ⟨[3], [2], [(0, [3])]⟩) (by
    have h : pieces an (nthC [1, 1, 0, 1, 0, 0] (bodyOf Tryd.f17)) = [] := by kernel_rfl
    rw [h]
    exact trivial) (fun R st K => ?_) (fun m R st K r h => ?_)
  · unfold dl3; split <;> rfl
  · have e := h
    unfold dl3 at e
    split at e
    · rename_i x0 x1 x2; exact (s3 G n m R x0 x1 x2 K).trans h
    · cases e
theorem allp {G : Gs} (hG : AllE Tryd.prog (ents G)) (n : Nat) : AllP Tryd.prog an (pc G n) (pieces an (bodyOf Tryd.f17)) := by
    have h : pieces an (bodyOf Tryd.f17) = [(1, 3, .loop (nthC [1, 1, 0, 1, 0, 0] (bodyOf Tryd.f17)))] := by kernel_rfl
    rw [h]
    exact ⟨pl3 hG n n, trivial⟩
/-- What the function computes. -/
noncomputable def Does (G : Gs) (a : List Fm) (r : List Fm) : Prop := ∃ n, main (R := AT × List Ob) G n a (fun r0 => some (.one (.l (.n 2) r0), [])) = some (.one (.l (.n 2) r), [])
theorem eq (G : Gs) (n : Nat) (a : List Fm) : den tb (orcOf (ents G)) (pc G n) an (bodyOf Tryd.f17) ⟨argsD 0 [.one (.l (.n 2) a)], []⟩ (atEnd (finF tb an [.tmp 2])) = main (R := AT × List Ob) G n a (fun r0 => some (.one (.l (.n 2) r0), [])) := by kernel_rfl
theorem ok {G : Gs} (hG : AllE Tryd.prog (ents G)) {g : List Fm → Option (List Fm)} (hg : ∀ a r, g a = some r → Does G a r) : EntOK Tryd.prog (ent g) := fun R xs H K r hc => by
  simp only [ent] at hc
  split at hc
  · rename_i a
    obtain ⟨r, q1, q2⟩ := bind_some hc
    obtain ⟨n, q3⟩ := hg a _ q1
    exact ⟨_, _, q2, fn_of_den (pc := pc G n) (an := an) (xs := [.one (.l (.n 2) a)]) (H := []) (fin := finF tb an [.tmp 2]) mixed tb_ok (orc_ok hG) (fn := Tryd.f17) (c := bodyOf Tryd.f17) Tryd.func17 (by kernel_rfl) (by kernel_rfl) (by kernel_rfl) (by kernel_rfl) (by kernel_rfl) (rs := [.tmp 2]) (by kernel_rfl) (.inl rfl) (allp hG n) ((eq G n a).trans q3)⟩
  · cases hc
end l_toFormulaS
namespace l_toFormula
structure Gs where
  l_toFormulaS : List Fm → Option (List Fm)
noncomputable def ents (G : Gs) : List Ent := [l_toFormulaS.ent G.l_toFormulaS]
noncomputable def main {R : Type} (G : Gs) (n : Nat) (a : Fm) (K : Fm → Option R) : Option R :=
  Option.bind (G.l_toFormulaS (Fm.kids a)) fun r =>
  K (Fm.mk (Fm.kind a) (Fm.prop a) r)
noncomputable def pc (_ : Gs) (_ : Nat) : Pcs := ⟨fun _ _ _ _ => none, fun _ _ _ _ => none, fun _ _ _ _ => none⟩
noncomputable def an : Ann := ⟨15, 0, [], [], [2], []⟩
theorem allp {G : Gs} (hG : AllE Tryd.prog (ents G)) (n : Nat) : AllP Tryd.prog an (pc G n) (pieces an (bodyOf Tryd.f7)) := by
    have h : pieces an (bodyOf Tryd.f7) = [] := by kernel_rfl
    rw [h]
    exact trivial
/-- What the function computes. -/
noncomputable def Does (G : Gs) (a : Fm) (r : Fm) : Prop := ∃ n, main (R := AT × List Ob) G n a (fun r0 => some (.agg [.i (Fm.kind r0), .i (Fm.prop r0), .l (.n 2) (Fm.kids r0)], [])) = some (.agg [.i (Fm.kind r), .i (Fm.prop r), .l (.n 2) (Fm.kids r)], [])
theorem eq (G : Gs) (n : Nat) (a : Fm) : den tb (orcOf (ents G)) (pc G n) an (bodyOf Tryd.f7) ⟨argsD 0 [.agg [.i (Fm.kind a), .i (Fm.prop a), .l (.n 2) (Fm.kids a)]], []⟩ (atEnd (finF tb an [.cell 2 29])) = main (R := AT × List Ob) G n a (fun r0 => some (.agg [.i (Fm.kind r0), .i (Fm.prop r0), .l (.n 2) (Fm.kids r0)], [])) := by kernel_rfl
theorem ok {G : Gs} (hG : AllE Tryd.prog (ents G)) {g : Fm → Option (Fm)} (hg : ∀ a r, g a = some r → Does G a r) : EntOK Tryd.prog (ent g) := fun R xs H K r hc => by
  simp only [ent] at hc
  split at hc
  · rename_i a a2 a3
    obtain ⟨r, q1, q2⟩ := bind_some hc
    obtain ⟨n, q3⟩ := hg (Fm.mk a a2 a3) _ q1
    exact ⟨_, _, q2, fn_of_den (pc := pc G n) (an := an) (xs := [.agg [.i a, .i a2, .l (.n 2) a3]]) (H := []) (fin := finF tb an [.cell 2 29]) mixed tb_ok (orc_ok hG) (fn := Tryd.f7) (c := bodyOf Tryd.f7) Tryd.func7 (by kernel_rfl) (by kernel_rfl) (by kernel_rfl) (by kernel_rfl) (by kernel_rfl) (rs := [.cell 2 29]) (by kernel_rfl) (.inl rfl) (allp hG n) ((eq G n (Fm.mk a a2 a3)).trans q3)⟩
  · cases hc
end l_toFormula
namespace l_szFormulaS
structure Gs where
  l_szFormula : Fm → Int → Option (Int)
noncomputable def ents (G : Gs) : List Ent := [l_szFormula.ent G.l_szFormula]
noncomputable def b5 {R : Type} (G : Gs) (n : Nat) (a : List Fm) (left : Int) (i : Int) (nx : List Fm → Int → Int → Option R) (k0 : Int → Option R) (k1 : Int → Option R) : Option R :=
  bif decide (i < (List.length a : Int)) then
    (
    Option.bind (ix a i) fun e =>
    Option.bind (G.l_szFormula (Fm.mk (Fm.kind e) (Fm.prop e) (Fm.kids e)) left) fun r =>
    bif decide (r < 0) then
      (k0 (-1))
    else
      nx a r (wr (i + 1))
    )
  else
    k1 left
noncomputable def l5 {R : Type} (G : Gs) (n m : Nat) (a : List Fm) (left : Int) (i : Int) (k0 : Int → Option R) (k1 : Int → Option R) : Option R := iter (fun (v : List Fm × Int × Int) nx => b5 G n v.1 v.2.1 v.2.2 (fun y0 y1 y2 => nx (y0, y1, y2)) k0 k1) m (a, left, i)
noncomputable def main {R : Type} (G : Gs) (n : Nat) (a : List Fm) (left : Int) (K : Int → Option R) : Option R :=
  bif decide ((wr (left - (List.length a : Int))) < 0) then
    (K (-1))
  else
    l5 G n n a (wr (left - (List.length a : Int))) 0
      (fun t4 => K t4)
      (fun left2 => K left2)
noncomputable def dl5 (G : Gs) (n m : Nat) (R : Type) (st : St) (K : Kt R) : Option R := match st with
  | ⟨[(0, .one (.l (.n 2) a)), (1, .one (.i left)), (5, .one (.i i))], []⟩ => l5 G n m a left i (fun t4 => K .ret ⟨[(4, .one (.i t4))], []⟩) (fun left => K (.exit 0) ⟨[(1, .one (.i left))], []⟩)
  | _ => none
noncomputable def pc (G : Gs) (n : Nat) : Pcs := ⟨fun R id st K => bif Nat.beq id 5 then dl5 G n n R st K else none, fun _ _ _ _ => none, fun _ _ _ _ => none⟩
noncomputable def an : Ann := ⟨27, 0, [(5, [0, 1, 5])], [], [4], []⟩
theorem s5 (G : Gs) (n m : Nat) (R : Type) (a : List Fm) (left : Int) (i : Int) (K : Kt R) : den tb (orcOf (ents G)) (pc G n) an (nthC [1, 1, 1, 0, 1, 0, 0] (bodyOf Tryd.f15)) ⟨[(0, .one (.l (.n 2) a)), (1, .one (.i left)), (5, .one (.i i))], []⟩ (roundK an.refs [0, 1, 5] ⟨[1], [4], [(0, [1])]⟩ (fun st => dl5 G n m R st K) K) = dl5 G n (m + 1) R ⟨[(0, .one (.l (.n 2) a)), (1, .one (.i left)), (5, .one (.i i))], []⟩ K := by kernel_rfl
theorem pl5 {G : Gs} (hG : AllE Tryd.prog (ents G)) (n : Nat) : ∀ m, PieceOK Tryd.prog an (.loop (nthC [1, 1, 1, 0, 1, 0, 0] (bodyOf Tryd.f15))) (dl5 G n m) := by
  refine loop_piece mixed tb_ok (orc_ok hG) (pc := pc G n) (lv := [0, 1, 5]) (o := ⟨[1], [4], [(0, [1])]⟩) (by
    have h : pieces an (nthC [1, 1, 1, 0, 1, 0, 0] (bodyOf Tryd.f15)) = [] := by kernel_rfl
    rw [h]
    exact trivial) (fun R st K => ?_) (fun m R st K r h => ?_)
  · unfold dl5; split <;> rfl
  · have e := h
    unfold dl5 at e
    split at e
    · rename_i x0 x1 x2; exact (s5 G n m R x0 x1 x2 K).trans h
    · cases e
theorem allp {G : Gs} (hG : AllE Tryd.prog (ents G)) (n : Nat) : AllP Tryd.prog an (pc G n) (pieces an (bodyOf Tryd.f15)) := by
    have h : pieces an (bodyOf Tryd.f15) = [(1, 5, .loop (nthC [1, 1, 1, 0, 1, 0, 0] (bodyOf Tryd.f15)))] := by kernel_rfl
    rw [h]
    exact ⟨pl5 hG n n, trivial⟩
/-- What the function computes. -/
noncomputable def Does (G : Gs) (a : List Fm) (left : Int) (r : Int) : Prop := ∃ n, main (R := AT × List Ob) G n a left (fun r0 => some (.one (.i r0), [])) = some (.one (.i r), [])
theorem eq (G : Gs) (n : Nat) (a : List Fm) (left : Int) : den tb (orcOf (ents G)) (pc G n) an (bodyOf Tryd.f15) ⟨argsD 0 [.one (.l (.n 2) a), .one (.i left)], []⟩ (atEnd (finF tb an [.tmp 4])) = main (R := AT × List Ob) G n a left (fun r0 => some (.one (.i r0), [])) := by kernel_rfl
theorem ok {G : Gs} (hG : AllE Tryd.prog (ents G)) {g : List Fm → Int → Option (Int)} (hg : ∀ a left r, g a left = some r → Does G a left r) : EntOK Tryd.prog (ent g) := fun R xs H K r hc => by
  simp only [ent] at hc
  split at hc
  · rename_i a a2
    obtain ⟨r, q1, q2⟩ := bind_some hc
    obtain ⟨n, q3⟩ := hg a a2 _ q1
    exact ⟨_, _, q2, fn_of_den (pc := pc G n) (an := an) (xs := [.one (.l (.n 2) a), .one (.i a2)]) (H := []) (fin := finF tb an [.tmp 4]) mixed tb_ok (orc_ok hG) (fn := Tryd.f15) (c := bodyOf Tryd.f15) Tryd.func15 (by kernel_rfl) (by kernel_rfl) (by kernel_rfl) (by kernel_rfl) (by kernel_rfl) (rs := [.tmp 4]) (by kernel_rfl) (.inl rfl) (allp hG n) ((eq G n a a2).trans q3)⟩
  · cases hc
end l_szFormulaS
namespace l_szFormula
structure Gs where
  l_szFormulaS : List Fm → Int → Option (Int)
noncomputable def ents (G : Gs) : List Ent := [l_szFormulaS.ent G.l_szFormulaS]
noncomputable def main {R : Type} (G : Gs) (n : Nat) (a : Fm) (left : Int) (K : Int → Option R) : Option R :=
  Option.bind (G.l_szFormulaS (Fm.kids a) left) fun r =>
  bif decide (r < 0) then
    (K (-1))
  else
    K r
noncomputable def pc (_ : Gs) (_ : Nat) : Pcs := ⟨fun _ _ _ _ => none, fun _ _ _ _ => none, fun _ _ _ _ => none⟩
noncomputable def an : Ann := ⟨12, 0, [], [], [4], []⟩
theorem allp {G : Gs} (hG : AllE Tryd.prog (ents G)) (n : Nat) : AllP Tryd.prog an (pc G n) (pieces an (bodyOf Tryd.f5)) := by
    have h : pieces an (bodyOf Tryd.f5) = [] := by kernel_rfl
    rw [h]
    exact trivial
/-- What the function computes. -/
noncomputable def Does (G : Gs) (a : Fm) (left : Int) (r : Int) : Prop := ∃ n, main (R := AT × List Ob) G n a left (fun r0 => some (.one (.i r0), [])) = some (.one (.i r), [])
theorem eq (G : Gs) (n : Nat) (a : Fm) (left : Int) : den tb (orcOf (ents G)) (pc G n) an (bodyOf Tryd.f5) ⟨argsD 0 [.agg [.i (Fm.kind a), .i (Fm.prop a), .l (.n 2) (Fm.kids a)], .one (.i left)], []⟩ (atEnd (finF tb an [.tmp 4])) = main (R := AT × List Ob) G n a left (fun r0 => some (.one (.i r0), [])) := by kernel_rfl
theorem ok {G : Gs} (hG : AllE Tryd.prog (ents G)) {g : Fm → Int → Option (Int)} (hg : ∀ a left r, g a left = some r → Does G a left r) : EntOK Tryd.prog (ent g) := fun R xs H K r hc => by
  simp only [ent] at hc
  split at hc
  · rename_i a a2 a3 a4
    obtain ⟨r, q1, q2⟩ := bind_some hc
    obtain ⟨n, q3⟩ := hg (Fm.mk a a2 a3) a4 _ q1
    exact ⟨_, _, q2, fn_of_den (pc := pc G n) (an := an) (xs := [.agg [.i a, .i a2, .l (.n 2) a3], .one (.i a4)]) (H := []) (fin := finF tb an [.tmp 4]) mixed tb_ok (orc_ok hG) (fn := Tryd.f5) (c := bodyOf Tryd.f5) Tryd.func5 (by kernel_rfl) (by kernel_rfl) (by kernel_rfl) (by kernel_rfl) (by kernel_rfl) (rs := [.tmp 4]) (by kernel_rfl) (.inl rfl) (allp hG n) ((eq G n (Fm.mk a a2 a3) a4).trans q3)⟩
  · cases hc
end l_szFormula
end Go.Proofs.YtagnfckihdlhpaaDoor.Den

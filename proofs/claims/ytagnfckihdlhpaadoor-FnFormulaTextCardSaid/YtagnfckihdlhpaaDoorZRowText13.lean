/-
  Functions of the program, by den. Printed by wip/den/dp.py.
-/
import Derived.Test.YtagnfckihdlhpaaDoorZRowText10
namespace Go.Proofs.YtagnfckihdlhpaaDoor.Den
open Go.RowKit
set_option maxRecDepth 100000
set_option linter.unusedVariables false
namespace l_big
structure Gs where
  none_ : Unit
noncomputable def ents (_ : Gs) : List Ent := []
noncomputable def main {R : Type} (G : Gs) (n : Nat) (code : List Int) (K : Bool → Option R) : Option R :=
  K (decide (1048576 < (List.length code : Int)))
noncomputable def pc (_ : Gs) (_ : Nat) : Pcs := ⟨fun _ _ _ _ => none, fun _ _ _ _ => none, fun _ _ _ _ => none⟩
noncomputable def an : Ann := ⟨6, 0, [], [], [2], []⟩
theorem allp {G : Gs} (hG : AllE Tryd.prog (ents G)) (n : Nat) : AllP Tryd.prog an (pc G n) (pieces an (bodyOf Tryd.f10)) := by
    have h : pieces an (bodyOf Tryd.f10) = [] := by kernel_rfl
    rw [h]
    exact trivial
/-- What the function computes. -/
noncomputable def Does (G : Gs) (code : List Int) (r : Bool) : Prop := ∃ n, main (R := AT × List Ob) G n code (fun r0 => some (.one (.b r0), [])) = some (.one (.b r), [])
theorem eq (G : Gs) (n : Nat) (code : List Int) : den tb (orcOf (ents G)) (pc G n) an (bodyOf Tryd.f10) ⟨argsD 0 [.one (.l .u code)], []⟩ (atEnd (finF tb an [.tmp 2])) = main (R := AT × List Ob) G n code (fun r0 => some (.one (.b r0), [])) := by kernel_rfl
theorem ok {G : Gs} (hG : AllE Tryd.prog (ents G)) {g : List Int → Option (Bool)} (hg : ∀ code r, g code = some r → Does G code r) : EntOK Tryd.prog (ent g) := fun R xs H K r hc => by
  simp only [ent] at hc
  split at hc
  · rename_i a
    obtain ⟨r, q1, q2⟩ := bind_some hc
    obtain ⟨n, q3⟩ := hg a _ q1
    exact ⟨_, _, q2, fn_of_den (pc := pc G n) (an := an) (xs := [.one (.l .u a)]) (H := []) (fin := finF tb an [.tmp 2]) mixed tb_ok (orc_ok hG) (fn := Tryd.f10) (c := bodyOf Tryd.f10) Tryd.func10 (by kernel_rfl) (by kernel_rfl) (by kernel_rfl) (by kernel_rfl) (by kernel_rfl) (rs := [.tmp 2]) (by kernel_rfl) (.inl rfl) (allp hG n) ((eq G n a).trans q3)⟩
  · cases hc
end l_big
namespace l_tail
structure Gs where
  none_ : Unit
noncomputable def ents (_ : Gs) : List Ent := []
noncomputable def main {R : Type} (G : Gs) (n : Nat) (code : List Int) (K : List Int → Option R) : Option R :=
  bif decide ((List.length code : Int) = 0) then
    (K code)
  else
    Option.bind (sub code 1 (List.length code : Int)) fun ys =>
    K ys
noncomputable def pc (_ : Gs) (_ : Nat) : Pcs := ⟨fun _ _ _ _ => none, fun _ _ _ _ => none, fun _ _ _ _ => none⟩
noncomputable def an : Ann := ⟨9, 0, [], [], [2], []⟩
theorem allp {G : Gs} (hG : AllE Tryd.prog (ents G)) (n : Nat) : AllP Tryd.prog an (pc G n) (pieces an (bodyOf Tryd.f12)) := by
    have h : pieces an (bodyOf Tryd.f12) = [] := by kernel_rfl
    rw [h]
    exact trivial
/-- What the function computes. -/
noncomputable def Does (G : Gs) (code : List Int) (r : List Int) : Prop := ∃ n, main (R := AT × List Ob) G n code (fun r0 => some (.one (.l .u r0), [])) = some (.one (.l .u r), [])
theorem eq (G : Gs) (n : Nat) (code : List Int) : den tb (orcOf (ents G)) (pc G n) an (bodyOf Tryd.f12) ⟨argsD 0 [.one (.l .u code)], []⟩ (atEnd (finF tb an [.tmp 2])) = main (R := AT × List Ob) G n code (fun r0 => some (.one (.l .u r0), [])) := by kernel_rfl
theorem ok {G : Gs} (hG : AllE Tryd.prog (ents G)) {g : List Int → Option (List Int)} (hg : ∀ code r, g code = some r → Does G code r) : EntOK Tryd.prog (ent g) := fun R xs H K r hc => by
  simp only [ent] at hc
  split at hc
  · rename_i a
    obtain ⟨r, q1, q2⟩ := bind_some hc
    obtain ⟨n, q3⟩ := hg a _ q1
    exact ⟨_, _, q2, fn_of_den (pc := pc G n) (an := an) (xs := [.one (.l .u a)]) (H := []) (fin := finF tb an [.tmp 2]) mixed tb_ok (orc_ok hG) (fn := Tryd.f12) (c := bodyOf Tryd.f12) Tryd.func12 (by kernel_rfl) (by kernel_rfl) (by kernel_rfl) (by kernel_rfl) (by kernel_rfl) (rs := [.tmp 2]) (by kernel_rfl) (.inl rfl) (allp hG n) ((eq G n a).trans q3)⟩
  · cases hc
end l_tail
namespace l_alike
structure Gs where
  l_alike : Fm → Fm → Option (Bool)
noncomputable def ents (G : Gs) : List Ent := [ent G.l_alike]
noncomputable def b4 {R : Type} (G : Gs) (n : Nat) (i : Int) (h0 : Int) (h02 : Int) (h03 : List Fm) (h1 : Int) (h12 : Int) (h13 : List Fm) (nx : Int → Int → Int → List Fm → Int → Int → List Fm → Option R) (k0 : Bool → Option R) (k1 : Option R) : Option R :=
  bif decide (i < (List.length h03 : Int)) then
    (
    Option.bind (ix h03 i) fun e2 =>
    Option.bind (ix h13 i) fun e4 =>
    Option.bind (G.l_alike (Fm.mk (Fm.kind e2) (Fm.prop e2) (Fm.kids e2)) (Fm.mk (Fm.kind e4) (Fm.prop e4) (Fm.kids e4))) fun r2 =>
    bif !r2 then
      (k0 false)
    else
      nx (wr (i + 1)) h0 h02 h03 h1 h12 h13
    )
  else
    k1
noncomputable def l4 {R : Type} (G : Gs) (n m : Nat) (i : Int) (h0 : Int) (h02 : Int) (h03 : List Fm) (h1 : Int) (h12 : Int) (h13 : List Fm) (k0 : Bool → Option R) (k1 : Option R) : Option R := iter (fun (v : Int × Int × Int × List Fm × Int × Int × List Fm) nx => b4 G n v.1 v.2.1 v.2.2.1 v.2.2.2.1 v.2.2.2.2.1 v.2.2.2.2.2.1 v.2.2.2.2.2.2 (fun y0 y1 y2 y3 y4 y5 y6 => nx (y0, y1, y2, y3, y4, y5, y6)) k0 k1) m (i, h0, h02, h03, h1, h12, h13)
noncomputable def main {R : Type} (G : Gs) (n : Nat) (f : Fm) (g : Fm) (K : Bool → Option R) : Option R :=
  bif !decide ((Fm.kind f) = (Fm.kind g)) then
    (K false)
  else
    bif !decide ((Fm.prop f) = (Fm.prop g)) then
      (K false)
    else
      bif !decide ((List.length (Fm.kids f) : Int) = (List.length (Fm.kids g) : Int)) then
        (K false)
      else
        l4 G n n 0 (Fm.kind f) (Fm.prop f) (Fm.kids f) (Fm.kind g) (Fm.prop g) (Fm.kids g)
          (fun t4 => K t4)
          ( K true)
noncomputable def dl4 (G : Gs) (n m : Nat) (R : Type) (st : St) (K : Kt R) : Option R := match st with
  | ⟨[(2, .one (.p 0 0)), (3, .one (.p 1 0)), (5, .one (.i i))], [.box [.i h0, .i h02, .l (.n 2) h03], .box [.i h1, .i h12, .l (.n 2) h13]]⟩ => l4 G n m i h0 h02 h03 h1 h12 h13 (fun t4 => K .ret ⟨[(4, .one (.b t4))], []⟩) (K (.exit 0) ⟨[], []⟩)
  | _ => none
noncomputable def pc (G : Gs) (n : Nat) : Pcs := ⟨fun R id st K => bif Nat.beq id 4 then dl4 G n n R st K else none, fun _ _ _ _ => none, fun _ _ _ _ => none⟩
noncomputable def an : Ann := ⟨46, 0, [(4, [2, 3, 5])], [], [4], [(6, ⟨[([0, 1, 2, 3, 4, 5, 6, 7, 8, 9, 10, 11], [], [])], [], [], [0, 1], []⟩)]⟩
theorem s4 (G : Gs) (n m : Nat) (R : Type) (i : Int) (h0 : Int) (h02 : Int) (h03 : List Fm) (h1 : Int) (h12 : Int) (h13 : List Fm) (K : Kt R) : den tb (orcOf (ents G)) (pc G n) an (nthC [1, 1, 0, 1, 0, 0] (bodyOf Tryd.f14)) ⟨[(2, .one (.p 0 0)), (3, .one (.p 1 0)), (5, .one (.i i))], [.box [.i h0, .i h02, .l (.n 2) h03], .box [.i h1, .i h12, .l (.n 2) h13]]⟩ (roundK an.refs [2, 3, 5] ⟨[], [4], [(0, [])]⟩ (fun st => dl4 G n m R st K) K) = dl4 G n (m + 1) R ⟨[(2, .one (.p 0 0)), (3, .one (.p 1 0)), (5, .one (.i i))], [.box [.i h0, .i h02, .l (.n 2) h03], .box [.i h1, .i h12, .l (.n 2) h13]]⟩ K := by kernel_rfl
theorem pl4 {G : Gs} (hG : AllE Tryd.prog (ents G)) (n : Nat) : ∀ m, PieceOK Tryd.prog an (.loop (nthC [1, 1, 0, 1, 0, 0] (bodyOf Tryd.f14))) (dl4 G n m) := by
  refine loop_piece mixed tb_ok (orc_ok hG) (pc := pc G n) (lv := [2, 3, 5]) (o := ⟨[], [4], [(0, [])]⟩) (by
    have h : pieces an (nthC [1, 1, 0, 1, 0, 0] (bodyOf Tryd.f14)) = [] := by kernel_rfl
    rw [h]
    exact trivial) (fun R st K => ?_) (fun m R st K r h => ?_)
  · unfold dl4; split <;> rfl
  · have e := h
    unfold dl4 at e
    split at e
    · rename_i x0 x1 x2 x3 x4 x5 x6; exact (s4 G n m R x0 x1 x2 x3 x4 x5 x6 K).trans h
    · cases e
theorem allp {G : Gs} (hG : AllE Tryd.prog (ents G)) (n : Nat) : AllP Tryd.prog an (pc G n) (pieces an (bodyOf Tryd.f14)) := by
    have h : pieces an (bodyOf Tryd.f14) = [(1, 4, .loop (nthC [1, 1, 0, 1, 0, 0] (bodyOf Tryd.f14)))] := by kernel_rfl
    rw [h]
    exact ⟨pl4 hG n n, trivial⟩
/-- What the function computes. -/
noncomputable def Does (G : Gs) (f : Fm) (g : Fm) (r : Bool) : Prop := ∃ n, main (R := AT × List Ob) G n f g (fun r0 => some (.one (.b r0), [])) = some (.one (.b r), [])
theorem eq (G : Gs) (n : Nat) (f : Fm) (g : Fm) : den tb (orcOf (ents G)) (pc G n) an (bodyOf Tryd.f14) ⟨argsD 0 [.agg [.i (Fm.kind f), .i (Fm.prop f), .l (.n 2) (Fm.kids f)], .agg [.i (Fm.kind g), .i (Fm.prop g), .l (.n 2) (Fm.kids g)]], []⟩ (atEnd (finF tb an [.tmp 4])) = main (R := AT × List Ob) G n f g (fun r0 => some (.one (.b r0), [])) := by kernel_rfl
theorem ok {G : Gs} (hG : AllE Tryd.prog (ents G)) {g : Fm → Fm → Option (Bool)} (hg : ∀ f g_ r, g f g_ = some r → Does G f g_ r) : EntOK Tryd.prog (ent g) := fun R xs H K r hc => by
  simp only [ent] at hc
  split at hc
  · rename_i a a2 a3 a4 a5 a6
    obtain ⟨r, q1, q2⟩ := bind_some hc
    obtain ⟨n, q3⟩ := hg (Fm.mk a a2 a3) (Fm.mk a4 a5 a6) _ q1
    exact ⟨_, _, q2, fn_of_den (pc := pc G n) (an := an) (xs := [.agg [.i a, .i a2, .l (.n 2) a3], .agg [.i a4, .i a5, .l (.n 2) a6]]) (H := []) (fin := finF tb an [.tmp 4]) mixed tb_ok (orc_ok hG) (fn := Tryd.f14) (c := bodyOf Tryd.f14) Tryd.func14 (by kernel_rfl) (by kernel_rfl) (by kernel_rfl) (by kernel_rfl) (by kernel_rfl) (rs := [.tmp 4]) (by kernel_rfl) (.inl rfl) (allp hG n) ((eq G n (Fm.mk a a2 a3) (Fm.mk a4 a5 a6)).trans q3)⟩
  · cases hc
end l_alike
namespace l_FnFormulaText
structure Gs where
  l_big : List Int → Option (Bool)
  s_DrawFormatFormula : List Int → Option (Fm)
  l_tail : List Int → Option (List Int)
  i_FormatFormula : Fm → Option (ByteArray)
  s_FormatFormula : Fm → Option (ByteArray)
  s_IsFormula : Fm → Option (Bool)
  l_alike : Fm → Fm → Option (Bool)
noncomputable def ents (G : Gs) : List Ent := [l_big.ent G.l_big, s_DrawFormatFormula.ent G.s_DrawFormatFormula, l_tail.ent G.l_tail, i_FormatFormula.ent G.i_FormatFormula, s_FormatFormula.ent G.s_FormatFormula, s_IsFormula.ent G.s_IsFormula, l_alike.ent G.l_alike]
noncomputable def main {R : Type} (G : Gs) (n : Nat) (code : List Int) (K : Bool → Option R) : Option R :=
  Option.bind (G.l_big code) fun r =>
  bif r then
    (K true)
  else
    Option.bind (G.s_DrawFormatFormula code) fun r2 =>
    Option.bind (G.l_tail code) fun r3 =>
    Option.bind (G.s_DrawFormatFormula r3) fun r4 =>
    Option.bind (G.i_FormatFormula (Fm.mk (Fm.kind r2) (Fm.prop r2) (Fm.kids r2))) fun r5 =>
    Option.bind (G.i_FormatFormula (Fm.mk (Fm.kind r4) (Fm.prop r4) (Fm.kids r4))) fun r6 =>
    Option.bind (G.s_FormatFormula (Fm.mk (Fm.kind r2) (Fm.prop r2) (Fm.kids r2))) fun r7 =>
    bif sEq r5 r7 then
      (
      Option.bind (G.s_IsFormula (Fm.mk (Fm.kind r2) (Fm.prop r2) (Fm.kids r2))) fun r8 =>
      bif (sEq r5 ByteArray.empty) == (!r8) then
        (
        bif !sEq r5 r6 then
          (K true)
        else
          bif sEq r5 ByteArray.empty then
            (K true)
          else
            Option.bind (G.l_alike (Fm.mk (Fm.kind r2) (Fm.prop r2) (Fm.kids r2)) (Fm.mk (Fm.kind r4) (Fm.prop r4) (Fm.kids r4))) fun r9 =>
            K r9
        )
      else
        K false
      )
    else
      K false
noncomputable def pc (_ : Gs) (_ : Nat) : Pcs := ⟨fun _ _ _ _ => none, fun _ _ _ _ => none, fun _ _ _ _ => none⟩
noncomputable def an : Ann := ⟨44, 0, [], [], [2], []⟩
theorem allp {G : Gs} (hG : AllE Tryd.prog (ents G)) (n : Nat) : AllP Tryd.prog an (pc G n) (pieces an (bodyOf Tryd.f4)) := by
    have h : pieces an (bodyOf Tryd.f4) = [] := by kernel_rfl
    rw [h]
    exact trivial
/-- What the function computes. -/
noncomputable def Does (G : Gs) (code : List Int) (r : Bool) : Prop := ∃ n, main (R := AT × List Ob) G n code (fun r0 => some (.one (.b r0), [])) = some (.one (.b r), [])
theorem eq (G : Gs) (n : Nat) (code : List Int) : den tb (orcOf (ents G)) (pc G n) an (bodyOf Tryd.f4) ⟨argsD 0 [.one (.l .u code)], []⟩ (atEnd (finF tb an [.tmp 2])) = main (R := AT × List Ob) G n code (fun r0 => some (.one (.b r0), [])) := by kernel_rfl
theorem ok {G : Gs} (hG : AllE Tryd.prog (ents G)) {g : List Int → Option (Bool)} (hg : ∀ code r, g code = some r → Does G code r) : EntOK Tryd.prog (ent g) := fun R xs H K r hc => by
  simp only [ent] at hc
  split at hc
  · rename_i a
    obtain ⟨r, q1, q2⟩ := bind_some hc
    obtain ⟨n, q3⟩ := hg a _ q1
    exact ⟨_, _, q2, fn_of_den (pc := pc G n) (an := an) (xs := [.one (.l .u a)]) (H := []) (fin := finF tb an [.tmp 2]) mixed tb_ok (orc_ok hG) (fn := Tryd.f4) (c := bodyOf Tryd.f4) Tryd.func4 (by kernel_rfl) (by kernel_rfl) (by kernel_rfl) (by kernel_rfl) (by kernel_rfl) (rs := [.tmp 2]) (by kernel_rfl) (.inl rfl) (allp hG n) ((eq G n a).trans q3)⟩
  · cases hc
end l_FnFormulaText
end Go.Proofs.YtagnfckihdlhpaaDoor.Den

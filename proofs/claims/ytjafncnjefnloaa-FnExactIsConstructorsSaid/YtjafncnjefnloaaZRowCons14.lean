/-
  Functions of the program, by den. Printed by wip/den/dp.py.
-/
import Derived.Test.YtjafncnjefnloaaZRowCons12
namespace Go.Proofs.Ytjafncnjefnloaa.Den
open Go.RowKit
set_option maxRecDepth 100000
set_option linter.unusedVariables false
namespace l_FnExactIsConstructors
structure Gs where
  l_szSignature : Sg → Int → Option (Int)
  l_toSignature : Sg → Option (Sg)
  l_toIntS : List Int → Option (List Int)
  s_IsConstructors : Sg → List Int → Option (Bool)
  i_IsConstructors : Sg → List Int → Option (Bool)
  l_eqSignature : Sg → Sg → Option (Bool)
  l_eqIntS : List Int → List Int → Option (Bool)
noncomputable def ents (G : Gs) : List Ent := [l_szSignature.ent G.l_szSignature, l_toSignature.ent G.l_toSignature, l_toIntS.ent G.l_toIntS, s_IsConstructors.ent G.s_IsConstructors, i_IsConstructors.ent G.i_IsConstructors, l_eqSignature.ent G.l_eqSignature, l_eqIntS.ent G.l_eqIntS]
noncomputable def main {R : Type} (G : Gs) (n : Nat) (aS : Sg) (aCtors : List Int) (K : Bool → Option R) : Option R :=
  bif decide (1048576 < (List.length aCtors : Int)) then
    (K true)
  else
    Option.bind (G.l_szSignature aS 1048576) fun r =>
    bif decide (r < 0) then
      (K true)
    else
      Option.bind (G.l_toSignature aS) fun r2 =>
      Option.bind (G.l_toIntS aCtors) fun r3 =>
      Option.bind (G.s_IsConstructors r2 r3) fun r4 =>
      Option.bind (G.l_toSignature aS) fun r5 =>
      Option.bind (G.l_toIntS aCtors) fun r6 =>
      Option.bind (G.i_IsConstructors r5 r6) fun r7 =>
      bif !(r7 == r4) then
        (K false)
      else
        Option.bind (G.l_toSignature aS) fun r9 =>
        Option.bind (G.l_eqSignature r5 r9) fun r11 =>
        bif !r11 then
          (K false)
        else
          Option.bind (G.l_toIntS aCtors) fun r12 =>
          Option.bind (G.l_eqIntS r6 r12) fun r13 =>
          bif !r13 then
            (K false)
          else
            K true
noncomputable def pc (_ : Gs) (_ : Nat) : Pcs := ⟨fun _ _ _ _ => none, fun _ _ _ _ => none, fun _ _ _ _ => none⟩
noncomputable def an : Ann := ⟨43, 0, [], [], [4], [(13, ⟨[([0, 1, 2, 3, 4], [], [])], [], [], [0, 1], []⟩)]⟩
theorem allp {G : Gs} (hG : AllE Try.prog (ents G)) (n : Nat) : AllP Try.prog an (pc G n) (pieces an (bodyOf Try.f3)) := by
    have h : pieces an (bodyOf Try.f3) = [] := by kernel_rfl
    rw [h]
    exact trivial
/-- What the function computes. -/
noncomputable def Does (G : Gs) (aS : Sg) (aCtors : List Int) (r : Bool) : Prop := ∃ n, main (R := AT × List Ob) G n aS aCtors (fun r0 => some (.one (.b r0), [])) = some (.one (.b r), [])
theorem eq (G : Gs) (n : Nat) (aS : Sg) (aCtors : List Int) : den tb (orcOf (ents G)) (pc G n) an (bodyOf Try.f3) ⟨argsD 0 [.agg [.l .s (So.names (Sg.sorts aS)), .l (.n 5) (So.subs (Sg.sorts aS)), .l (.n 8) (Sg.ops aS)], .one (.l .i aCtors)], []⟩ (atEnd (finF tb an [.tmp 4])) = main (R := AT × List Ob) G n aS aCtors (fun r0 => some (.one (.b r0), [])) := by kernel_rfl
theorem ok {G : Gs} (hG : AllE Try.prog (ents G)) {g : Sg → List Int → Option (Bool)} (hg : ∀ aS aCtors r, g aS aCtors = some r → Does G aS aCtors r) : EntOK Try.prog (ent g) := fun R xs H K r hc => by
  simp only [ent] at hc
  split at hc
  · rename_i a a2 a3 a4
    obtain ⟨r, q1, q2⟩ := bind_some hc
    obtain ⟨n, q3⟩ := hg (Sg.mk (So.mk a a2) a3) a4 _ q1
    exact ⟨_, _, q2, fn_of_den (pc := pc G n) (an := an) (xs := [.agg [.l .s a, .l (.n 5) a2, .l (.n 8) a3], .one (.l .i a4)]) (H := []) (fin := finF tb an [.tmp 4]) mixed tb_ok (orc_ok hG) (fn := Try.f3) (c := bodyOf Try.f3) Try.func3 (by kernel_rfl) (by kernel_rfl) (by kernel_rfl) (by kernel_rfl) (by kernel_rfl) (rs := [.tmp 4]) (by kernel_rfl) (.inl rfl) (allp hG n) ((eq G n (Sg.mk (So.mk a a2) a3) a4).trans q3)⟩
  · cases hc
end l_FnExactIsConstructors
end Go.Proofs.Ytjafncnjefnloaa.Den

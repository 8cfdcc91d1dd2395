/-
  Short names of some theorems of Lean's own.
-/
import Derived.Test.YtfdkldmkbibknaaGreatRows
namespace Go.Proofs.YtfdkldmkbibknaaGreat
theorem bS.{u, v} {α : Type u} {β : Type v} (a : α) (f : α → Option β) : (some a).bind f = f a := Option.bind_some a f
theorem gI.{u} {α : Type u} {i : Nat} {a : α} {l : List α} : l[i]? = some a ↔ ∃ h : i < l.length, l[i] = a := List.getElem?_eq_some_iff 
theorem dF {p : Prop} [Decidable p] (h : ¬p) : decide p = false := decide_eq_false h
theorem dT {p : Prop} [Decidable p] (h : p) : decide p = true := decide_eq_true h
theorem gE.{u} {α : Type u} {l : List α} {i : Nat} (h : i < l.length) : l[i]? = some l[i] := List.getElem?_eq_getElem h
theorem cF.{u} {α : Sort u} (a b : α) : (bif false then a else b) = b := cond_false a b
theorem cT.{u} {α : Sort u} (a b : α) : (bif true then a else b) = a := cond_true a b
theorem bA (a b : Bool) : ((a && b) = true) = (a = true ∧ b = true) := Bool.and_eq_true a b
theorem aT.{u} {α : Type u} {p : α → Bool} {l : List α} : l.all p = true ↔ ∀ x ∈ l, p x = true := List.all_eq_true 
theorem sN.{u} {α : Type u} {l : List α} {i j : Nat} (h : i ≠ j) {a : α} : (l.set i a)[j]? = l[j]? := List.getElem?_set_ne h
theorem aL.{u} {α : Type u} {a b : List α} {i : Nat} (h : i < a.length) : (a ++ b)[i]? = a[i]? := List.getElem?_append_left h
theorem aR.{u} {α : Type u} {a b : List α} {i : Nat} (h : a.length ≤ i) : (a ++ b)[i]? = b[i - a.length]? := List.getElem?_append_right h
theorem gM.{u} {α : Type u} {l : List α} {n : Nat} (h : n < l.length) : l[n] ∈ l := List.getElem_mem h
theorem nB {n m : Nat} (h : n.beq m = true) : n = m := Nat.eq_of_beq_eq_true h
theorem gA.{u} {α : Type u} {xs : Array α} {i : Nat} (h : i < xs.size) : xs[i]? = some xs[i] := Array.getElem?_eq_getElem h
theorem nZ.{u} {α : Type u} {l : List α} (h : l.length = 0) : l = [] := List.eq_nil_of_length_eq_zero h
theorem sS.{u} {α : Type u} {l : List α} {i : Nat} {a : α} (h : i < l.length) : (l.set i a)[i]? = some a := List.getElem?_set_self h
theorem mG.{u} {α : Type u} {l : List α} {i : Nat} {a : α} (h : l[i]? = some a) : a ∈ l := List.mem_of_getElem? h
end Go.Proofs.YtfdkldmkbibknaaGreat

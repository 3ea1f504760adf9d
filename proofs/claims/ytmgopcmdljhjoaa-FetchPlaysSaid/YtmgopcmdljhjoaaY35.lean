/- Words of an own calculus over the model: how a call's frame, rows and boxes go through its operations. -/
import Derived.Test.YtmgopcmdljhjoaaY34
set_option linter.unusedSimpArgs false
set_option linter.unusedVariables false
namespace Go.Proofs.XC
open Go
section
variable {w : World} {o : Nat → Nat} {L F X : Nat} {β : Type} {E : Enc β} {et it : TypeId} {A : Option Addr} {c : Nat} {xs : List (List β)}
theorem last_ix {n : Nat} {i : Int} (hi : i = IntKind.wrap .i64 ((n : Int) - 1)) (h1 : 1 ≤ n) (h2 : n ≤ 9223372036854775807) : 0 ≤ i ∧ i + 1 = (n : Int) := by
  rw [hi, w64 (by omega) (by omega)]; omega
theorem Own.small {α : Type} {E : Enc α} {t : TypeId} {A : Option Addr} {k c : Nat} {xs : List α} {w : World} (h : Own E t (.slice A k c) xs w) : k ≤ 9223372036854775807 := by
  obtain ⟨A', c', e, h1, h2⟩ := h.shape
  injection e with e1 e2 e3
  omega
theorem NLast.ix (h : NLast E et it A c xs w o L F X) {i : Int} (hi : i = IntKind.wrap .i64 ((xs.length : Int) - 1)) : 0 ≤ i ∧ i + 1 = (xs.length : Int) := by
  obtain ⟨g, r, e1, e2, e3, e4⟩ := h
  exact last_ix hi (by rw [e1]; simp) (Own.small e2.now)
theorem NHole.ix (h : NHole E et A c xs w o L F) {i : Int} (hi : i = IntKind.wrap .i64 ((xs.length : Int) - 1)) : 0 ≤ i ∧ i + 1 = (xs.length : Int) := by
  obtain ⟨g, r, e1, e2, e3⟩ := h
  exact last_ix hi (by rw [e1]; simp) (Own.small e2.now)
end
end Go.Proofs.XC

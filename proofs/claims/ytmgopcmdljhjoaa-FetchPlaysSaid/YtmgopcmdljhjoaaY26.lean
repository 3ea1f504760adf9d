/- Words of an own calculus over the model: how a call's frame, rows and boxes go through its operations. -/
import Derived.Test.YtmgopcmdljhjoaaY25
set_option linter.unusedSimpArgs false
set_option linter.unusedVariables false
namespace Go.Proofs.XC
open Go

/-! ### Labels of arguments that aren't turned, but told apart -/
section
variable {w W W2 : World} {o oi of o1 o2 : Nat → Nat} {m : Nat} {MM N Ls Lm Sh : List Nat}
theorem St.locQ (h : St MM w oi W o1) (k : St N W o1 W2 o2) (hb : ∀ b, oi b ≤ m) (hn : N.all (fun l => Nat.blt m l || MM.any (Nat.beq l)) = true) : St MM w oi W2 o2 :=
  h.then k fun b hlt hx => by
    have h1 := List.all_eq_true.1 hn _ hx
    rcases Bool.or_eq_true _ _ ▸ h1 with h2 | h2
    · have h3 := hb b
      have h4 : m < oi b := by simpa using h2
      omega
    · obtain ⟨l, hl, he⟩ := List.any_eq_true.1 h2
      have := Nat.eq_of_beq_eq_true he
      rw [this]; exact hl
theorem St.closeQ (h : St MM w oi W of) (ha : ∀ b i, oi b = i + 1 → (Lm ++ Sh)[i]? = some (o b)) (hM : MM.all (fun l => Nat.blt 0 l && Nat.ble l Lm.length) = true) (ρ : Nat → Nat) : St Lm w o W (cl w oi o MM ρ of) := by
  have key : ∀ b, o b ∉ Lm → oi b ∉ MM := fun b hn hx => hn (by
    have h1 := List.all_eq_true.1 hM _ hx
    simp only [Bool.and_eq_true] at h1
    have h2 : 0 < oi b := by simpa using h1.1
    have h3 : oi b ≤ Lm.length := Nat.le_of_ble_eq_true h1.2
    have h4 := ha b (oi b - 1) (by omega)
    rw [List.getElem?_append_left (by omega)] at h4
    exact List.mem_of_getElem? h4)
  exact ⟨h.os, h.tape, h.output, h.size, fun b hb hn => cl_old hb (key b hn), fun b hb hn => h.kept b hb (key b hn)⟩
end
end Go.Proofs.XC

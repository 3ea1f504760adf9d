/- Words of an own calculus over the model: how a call's frame, rows and boxes go through its operations. -/
import Derived.Test.YtmgopcmdljhjoaaY22
set_option linter.unusedSimpArgs false
set_option linter.unusedVariables false
namespace Go.Proofs.XC
open Go

/-! ### A mask, over any number -/
theorem and_le (x : Int) (m : Nat) (hm : m < 4611686018427387904) : ∃ n : Nat, n ≤ m ∧ bits .and .i64 x (m : Int) = (n : Int) := by
  simp only [bits, BitVec.ofInt_natCast, BitVec.toNat_and, BitVec.toNat_ofNat]
  have h1 : m % 2 ^ IntKind.bits .i64 = m := Nat.mod_eq_of_lt (Nat.lt_of_lt_of_le hm (by decide))
  rw [h1]
  have h2 : (BitVec.ofInt (IntKind.bits .i64) x).toNat &&& m ≤ m := Nat.and_le_right
  exact ⟨_, h2, w64 (by omega) (by omega)⟩
theorem all_true {α : Type} (l : List α) (p : α → Bool) : (l.all p = true) ↔ ∀ x ∈ l, p x = true := List.all_eq_true
theorem cB {α : Type} (b : Bool) (x y : α) : (bif b then x else y) = if b = true then x else y := by cases b <;> rfl
theorem cNB {α : Type} (b : Bool) (x y : α) : (bif !b then x else y) = if b = true then y else x := by cases b <;> rfl
end Go.Proofs.XC
namespace Go.Proofs.XC
theorem ba_eq (a b : ByteArray) (h : (a == b) = true) : a = b := by
  obtain ⟨a⟩ := a
  obtain ⟨b⟩ := b
  have h2 : (a == b) = true := h
  rw [eq_of_beq h2]
theorem ba_refl (a : ByteArray) : (a == a) = true := by
  obtain ⟨a⟩ := a
  show (a == a) = true
  exact beq_self_eq_true a
instance : ReflBEq ByteArray := ⟨ba_refl _⟩
instance : LawfulBEq ByteArray := ⟨fun h => ba_eq _ _ h⟩
end Go.Proofs.XC

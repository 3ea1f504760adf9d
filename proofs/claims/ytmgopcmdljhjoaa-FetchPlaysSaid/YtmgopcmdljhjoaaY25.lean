/- Words of an own calculus over the model: how a call's frame, rows and boxes go through its operations. -/
import Derived.Test.YtmgopcmdljhjoaaY24
set_option linter.unusedSimpArgs false
set_option linter.unusedVariables false
namespace Go.Proofs.XC
open Go

/-! ### A row against nil -/
section
variable {P : Program} {T : Tab} {w : World} {e : Env} {d : Option Tmp} {ty : TypeId} {pos : String} {af : Array Edge} {g : Option (Nat × Bool)}
theorem RdC.none {α : Type} {E : Enc α} {xs : List α} (h : RdC E none xs w) : xs = [] := by
  cases xs with
  | nil => rfl
  | cons x xs =>
    obtain ⟨ad, ha, _⟩ := h (by simp)
    cases ha
theorem none_or {β : Type} (A : Option β) : A = none ∨ ∃ ad, A = some ad := by cases A <;> simp
theorem run_equal_nilN (ht : TabOK P T) {t el : Nat} (hu : find T.und t = some (.slice el)) (l c : Nat) : (Op.equal t (.slice none l c) (.slice none 0 0)).run P w = .ok true w := by
  have hr := run_underlying' (w := w) (ht.u hu)
  exact equal_of fun n => by simp [Op.equalIn, hr]
theorem run_equal_nilS (ht : TabOK P T) {t el : Nat} (hu : find T.und t = some (.slice el)) (ad : Addr) (l c : Nat) : (Op.equal t (.slice (some ad) l c) (.slice none 0 0)).run P w = .ok false w := by
  have hr := run_underlying' (w := w) (ht.u hu)
  exact equal_of fun n => by simp [Op.equalIn, hr]
theorem ask_seqN (ht : TabOK P T) {t el : Nat} {x y : Operand} {z : TypeId} {l c : Nat} (hu : find T.und t = some (.slice el)) (hx : evo e x = some (.slice none l c)) (hy : evo e y = some (.slice none 0 0)) :
    AskIs P e (Oper.mk d (.binOp .eql t x y z) ty pos af g) (.bool true) w := by
  intro ρ hρ
  have h3 := run_eq_of (x := x) (y := y) ⟨rfl, rfl⟩ (run_equal_nilN (w := w) ht hu l c)
  simp only [execOp, hρ _ _ hx, hρ _ _ hy]
  simp only [Sem.run_bind] at h3 ⊢
  simp [h3]
theorem ask_seqS (ht : TabOK P T) {t el : Nat} {x y : Operand} {z : TypeId} {ad : Addr} {l c : Nat} (hu : find T.und t = some (.slice el)) (hx : evo e x = some (.slice (some ad) l c)) (hy : evo e y = some (.slice none 0 0)) :
    AskIs P e (Oper.mk d (.binOp .eql t x y z) ty pos af g) (.bool false) w := by
  intro ρ hρ
  have h3 := run_eq_of (x := x) (y := y) ⟨rfl, rfl⟩ (run_equal_nilS (w := w) ht hu ad l c)
  simp only [execOp, hρ _ _ hx, hρ _ _ hy]
  simp only [Sem.run_bind] at h3 ⊢
  simp [h3]
end
end Go.Proofs.XC

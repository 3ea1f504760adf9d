/- Words of an own calculus over the model: how a call's frame, rows and boxes go through its operations. -/
import Derived.Test.YtpciioffkjpieaaGreatDoorZ3
set_option linter.unusedSimpArgs false
set_option linter.unusedVariables false
namespace Go.Proofs.XC
open Go

/-! ### A row that is own where a test says so; else it stands on its label, or is frozen -/
def CO {α : Type} (E : Enc α) (t : TypeId) (A : Option Addr) (c : Nat) (xs : List α) (b : Bool) (w : World) (o : Nat → Nat) (L F : Nat) : Prop :=
  (b = true → Ft (Own E t (.slice A xs.length c) xs) w o L) ∧ (Ft (RdC E A xs) w o L ∨ Ft (RdC E A xs) w o F)
theorem RdC.nilr {α : Type} (E : Enc α) (A : Option Addr) (w : World) : RdC E A ([] : List α) w := fun h => absurd h (by simp)
theorem St.closeMM_ft {P : World → Prop} {w W : World} {oi o of : Nat → Nat} {MM : List Nat} {l L : Nat} (h : St MM w oi W of) (f : Ft P W of l) {ρ : Nat → Nat} (hl : l ∈ MM) (hρ : ρ l = L) : Ft P W (cl w oi o MM ρ of) L :=
  f.mono fun b hb _ => by
    by_cases hlt : b < w.heap.size ∧ oi b ∉ MM
    · exact absurd (by rw [← h.lab b hlt.1 hlt.2, hb]; exact hl) hlt.2
    · unfold cl; rw [if_neg hlt, hb, hρ]
section
variable {α : Type} {E : Enc α} {t : TypeId} {A : Option Addr} {c : Nat} {xs : List α} {b : Bool} {w w' : World} {o o' : Nat → Nat} {L F L' F' : Nat} {M : List Nat}
theorem CO.conv (h : CO E t A c xs b w o L F) (h1 : ∀ P : World → Prop, Ft P w o L → Ft P w' o' L') (h2 : ∀ P : World → Prop, Ft P w o F → Ft P w' o' F') : CO E t A c xs b w' o' L' F' :=
  ⟨fun hb => h1 _ (h.1 hb), h.2.elim (fun f => .inl (h1 _ f)) (fun f => .inr (h2 _ f))⟩
theorem CO.st (h : CO E t A c xs b w o L F) (s : St M w o w' o') (hL : L ∉ M ∧ F ∉ M) : CO E t A c xs b w' o' L F := h.conv (fun _ f => f.st s hL.1) (fun _ f => f.st s hL.2)
theorem CO.relab (h : CO E t A c xs b w o L F) (r : Nat → Nat) (hr : (r L, r F) = (L', F')) : CO E t A c xs b w (fun b => r (o b)) L' F' :=
  h.conv (fun _ f => f.relab r (Prod.mk.inj hr).1) (fun _ f => f.relab r (Prod.mk.inj hr).2)
theorem CO.own (h : CO E t A c xs true w o L F) : Ft (Own E t (.slice A xs.length c) xs) w o L := h.1 rfl
theorem CO.of_own (f : Ft (Own E t (.slice A xs.length c) xs) w o L) (b : Bool) (F : Nat) : CO E t A c xs b w o L F := ⟨fun _ => f, .inl (f.imp fun _ h => Own.rd h)⟩
theorem CO.nil (E : Enc α) (t : TypeId) (b : Bool) (w : World) (o : Nat → Nat) (L F : Nat) : CO E t none 0 ([] : List α) b w o L F :=
  CO.of_own (Ft.of_all (fun _ => Own.nil _ _ _) _ _ _) b F
theorem CO.rd (h : CO E t A c xs b w o L F) : Ft (RdC E A xs) w o L ∨ Ft (RdC E A xs) w o F := h.2
end
end Go.Proofs.XC

/- Plain laws: what the plain functions answer, with no program in sight. -/
import Derived.Test.YtpciioffkjpieaaDoorSPC
set_option linter.unusedVariables false
set_option linter.unusedSimpArgs false
namespace Go.Proofs.YtpciioffkjpieaaDoor.Pure
open Go Go.Proofs.XC Go.Proofs.YtpciioffkjpieaaDoor

theorem Inv.zero {d : T44} (h : Inv d) (h0 : d.Need ≤ 0) : d = Z := by
  rcases h with rfl | ⟨hl, h⟩
  · rfl
  · have := lead_need _ hl
    rcases h with ⟨h1, _⟩ | ⟨h1, _⟩ | ⟨h1, _⟩ <;> omega
theorem valid64 {l : List Int} (h : ∀ x ∈ l, valid x) : Nums64 l := fun x hx => by have := h x hx; unfold valid at this; omega
theorem decZ (l : List Int) (h : Bytes l) : Inv (dec Z l).1 ∧ ∀ x ∈ (dec Z l).2, valid x := dec_inv l Z (.inl rfl) h
theorem decAll_valid (l : List Int) (h : Bytes l) : ∀ x ∈ decAll l, valid x := by
  intro x hx
  simp only [decAll, List.mem_append] at hx
  rcases hx with hx | hx
  · exact (decZ l h).2 x hx
  · unfold endF at hx
    split at hx
    · simp at hx
    · simp only [List.mem_singleton] at hx; subst hx; simp [valid]
/-! ### In parts -/
/-! ### Valid runes, and how many -/
def pend (d : T44) : Nat := if d.Need > 0 then 1 else 0
theorem next_pend (d : T44) (c : Int) (hd : Inv d) (h0 : 0 ≤ c) (h1 : c < 256) : (nextF d c).2.length + pend (nextF d c).1 ≤ 1 + pend d ∧ 1 ≤ (nextF d c).2.length + pend (nextF d c).1 := by
  have hb := begin_inv c h0 h1
  have hbe : (beginF c).2.length + pend (beginF c).1 = 1 := by
    unfold pend
    rcases hb.2.2.2 with h | h
    · rw [if_pos h, hb.2.2.1 h]; rfl
    · by_cases h2 : (beginF c).1.Need > 0
      · rw [hb.2.2.1 h2] at h; simp at h
      · rw [if_neg h2, h]
  unfold nextF
  split
  · omega
  · rename_i hn
    have hp : pend d = 1 := by unfold pend; rw [if_pos (by omega)]
    split
    · split
      · simp [pend]
      · rename_i h2
        simp only [pend, List.length_nil]
        rw [if_pos (by omega)]; omega
    · simp only [List.length_cons]; omega
theorem dec_pend : ∀ (l : List Int) (d : T44), Inv d → Bytes l → (dec d l).2.length + pend (dec d l).1 ≤ l.length + pend d ∧ (l ≠ [] → 1 ≤ (dec d l).2.length + pend (dec d l).1)
  | [], d, _, _ => by simp [dec]
  | c :: l, d, hd, hb => by
    have hc := hb c (by simp)
    have hn := next_pend d c hd hc.1 hc.2
    have hi := next_inv d c hd hc.1 hc.2
    have ih := dec_pend l _ hi.1 (fun x hx => hb x (by simp [hx]))
    simp only [dec, List.length_append, List.length_cons]
    refine ⟨by omega, fun _ => ?_⟩
    cases l with
    | nil => simp [dec]; omega
    | cons y l => have := ih.2 (by simp); omega
theorem decAll_len (l : List Int) (hb : Bytes l) : (decAll l).length ≤ l.length ∧ (l ≠ [] → 1 ≤ (decAll l).length) := by
  have := dec_pend l Z (.inl rfl) hb
  have hz : pend Z = 0 := rfl
  have he : (endF (dec Z l).1).length = pend (dec Z l).1 := by
    unfold endF pend; split <;> split <;> first | rfl | omega
  simp only [decAll, List.length_append]
  exact ⟨by omega, fun h => by have := this.2 h; omega⟩
end Go.Proofs.YtpciioffkjpieaaDoor.Pure

/- Plain laws: what the plain functions answer, with no program in sight. -/
import Derived.Test.YtpciioffkjpieaaDoorRPC
set_option linter.unusedVariables false
set_option linter.unusedSimpArgs false
namespace Go.Proofs.YtpciioffkjpieaaDoor.Pure4
open Go Go.Proofs.XC Go.Proofs.YtpciioffkjpieaaDoor

/-! ### PartsSplit -/
/-! ### PartsSizes -/
/-! ### PartsPlay -/
theorem putQ_grows {s : T83} {k : Int} {H : List Bool} {Q : List ByteArray} (h : R s k H Q) (key index count : Int) (v : ByteArray) (hk : putK k H key index count = k) : sizes Q ≤ sizes (putQ k H Q key index count v) := by
  unfold putK at hk
  unfold putQ
  by_cases hb : bad key index count
  · rw [if_pos hb]; omega
  · rw [if_neg hb] at hk ⊢
    by_cases c1 : key < k
    · rw [if_pos c1]; omega
    · rw [if_neg c1] at hk ⊢
      rw [if_pos hk]
      by_cases c2 : count = (H.length : Int)
      · rw [if_pos c2]
        unfold setQ
        by_cases c3 : H.getD index.toNat false = true
        · rw [if_pos c3]; omega
        · rw [if_neg c3]
          have hi : index.toNat < H.length := by unfold bad at hb; omega
          rw [sizes_set Q _ v (by rw [h.len]; exact hi) (h.empty _ (by simpa using c3))]
          omega
      · rw [if_neg c2]; omega
/-! ### PartsBack -/
def Bk (L : List ByteArray) (k : Int) (H : List Bool) (Q : List ByteArray) : Prop := k = 0 ∨ (k = 9 ∧ H.length = L.length ∧ ∀ j : Nat, H.getD j false = true → Q.getD j ⟨#[]⟩ = L.getD j ⟨#[]⟩)
theorem back_put {s : T83} {k : Int} {H : List Bool} {Q : List ByteArray} (h : R s k H Q) (L : List ByteArray) (hL : L.length ≤ 1000) (hb : Bk L k H Q) (i : Nat) (hi : i < L.length) (hv : (L.getD i ⟨#[]⟩).size ≤ 300) :
    ∃ s' H' Q', parts_Slot_Put s 9 i (L.length : Int) (L.getD i ⟨#[]⟩) = some (0, s') ∧ R s' 9 H' Q' ∧ Bk L 9 H' Q' ∧ H'.getD i false = true ∧ (k = 9 → ∀ j : Nat, H.getD j false = true → H'.getD j false = true) := by
  obtain ⟨s', e, r⟩ := put_eq h 9 i (L.length : Int) (.inl (by omega)) (L.getD i ⟨#[]⟩) hv
  have hnb : ¬ bad 9 (i : Int) (L.length : Int) := by unfold bad; omega
  have hE : putE k H 9 i (L.length : Int) = 0 := by
    unfold putE
    rw [if_neg hnb]
    rcases hb with rfl | ⟨rfl, hl, _⟩
    · simp
    · rw [if_neg (by omega), if_pos rfl, if_pos (by omega)]
  have hK : putK k H 9 i (L.length : Int) = 9 := by
    unfold putK
    rw [if_neg hnb]
    rcases hb with rfl | ⟨rfl, hl, _⟩
    · simp
    · simp
  rw [hE] at e
  rw [hK] at r
  have core : ∀ (H : List Bool) (Q : List ByteArray), H.length = L.length → Q.length = L.length → (∀ j : Nat, H.getD j false = true → Q.getD j ⟨#[]⟩ = L.getD j ⟨#[]⟩) → (setH H i).length = L.length ∧ (∀ j : Nat, (setH H i).getD j false = true → (setQ H Q i (L.getD i ⟨#[]⟩)).getD j ⟨#[]⟩ = L.getD j ⟨#[]⟩) ∧ (setH H i).getD i false = true ∧ ∀ j : Nat, H.getD j false = true → (setH H i).getD j false = true := by
    intro H Q h1 h2 h3
    unfold setH setQ
    by_cases c : H.getD i false = true
    · simp only [if_pos c]
      exact ⟨h1, h3, c, fun j hj => hj⟩
    · simp only [if_neg c]
      refine ⟨by rw [List.length_set]; exact h1, fun j hj => ?_, ?_, fun j hj => ?_⟩
      · rw [getD_set _ _ _ _ _ (by omega)] at hj ⊢
        by_cases d : i = j
        · subst d; rw [if_pos rfl]
        · rw [if_neg d] at hj ⊢; exact h3 j hj
      · rw [getD_set _ _ _ _ _ (by omega), if_pos rfl]
      · rw [getD_set _ _ _ _ _ (by omega)]
        split
        · rfl
        · exact hj
  have hlQ := h.len
  rcases hb with rfl | ⟨rfl, hl, hc⟩
  · have hH : putH 0 H 9 i (L.length : Int) = setH (List.replicate L.length false) i := by
      unfold putH; rw [if_neg hnb]; simp
    have hQ : putQ 0 H Q 9 i (L.length : Int) (L.getD i ⟨#[]⟩) = setQ (List.replicate L.length false) (List.replicate L.length ⟨#[]⟩) i (L.getD i ⟨#[]⟩) := by
      unfold putQ; rw [if_neg hnb]; simp
    rw [hH, hQ] at r
    obtain ⟨a1, a2, a3, a4⟩ := core (List.replicate L.length false) (List.replicate L.length ⟨#[]⟩) (by simp) (by simp) (fun j hj => by rw [getD_rep] at hj; cases hj)
    exact ⟨s', _, _, e, r, .inr ⟨rfl, a1, a2⟩, a3, fun h9 => by omega⟩
  · have hH : putH 9 H 9 i (L.length : Int) = setH H i := by
      unfold putH; rw [if_neg hnb, if_neg (by omega), if_pos rfl, if_pos (by omega), Int.toNat_natCast]
    have hQ : putQ 9 H Q 9 i (L.length : Int) (L.getD i ⟨#[]⟩) = setQ H Q i (L.getD i ⟨#[]⟩) := by
      unfold putQ; rw [if_neg hnb, if_neg (by omega), if_pos rfl, if_pos (by omega), Int.toNat_natCast]
    rw [hH, hQ] at r
    obtain ⟨a1, a2, a3, a4⟩ := core H Q hl (by omega) hc
    exact ⟨s', _, _, e, r, .inr ⟨rfl, a1, a2⟩, a3, fun _ => a4⟩
theorem all_numT : ∀ (H : List Bool), (∀ j : Nat, j < H.length → H.getD j false = true) → numT H = H.length
  | [], _ => rfl
  | b :: l, h => by
    have h0 := h 0 (by simp)
    simp at h0
    subst h0
    unfold numT
    rw [all_numT l fun j hj => by have := h (j + 1) (by simpa using hj); simpa using this]
    simp only [if_true, List.length_cons]; omega
end Go.Proofs.YtpciioffkjpieaaDoor.Pure4

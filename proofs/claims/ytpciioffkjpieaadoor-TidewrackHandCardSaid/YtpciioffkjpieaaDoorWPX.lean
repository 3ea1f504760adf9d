/- Walks, printed by an own program: the machine's calls compute the plain functions. -/
import Derived.Test.YtpciioffkjpieaaDoorWPC
set_option linter.unusedVariables false
set_option linter.unusedSimpArgs false
namespace Go.Proofs.YtpciioffkjpieaaDoor.PureF
open Go Go.Proofs.XC Go.Proofs.YtpciioffkjpieaaDoor

/-! ### FlowJoins -/
theorem grow_eq (n : Nat) (h : n ≤ 1000000) : slices_Grow' n = some [] := by
  unfold slices_Grow' slices_Grow'_j1
  have e : IntKind.wrap .i64 ((n : Int) - IntKind.wrap .i64 (0 - ((([] : List T36)).length : Int))) = n := by
    rw [w64 (x := 0 - ((([] : List T36)).length : Int)) (by simp) (by simp)]
    rw [w64 (by simp only [List.length_nil]; omega) (by simp only [List.length_nil]; omega)]
    simp
  rw [cD, if_neg (by omega), e, cD]
  by_cases c : (n : Int) > 0
  · rw [if_pos c, if_pos (by omega), if_pos (by omega)]
  · rw [if_neg c]
theorem concat3 (rs : List (List T36)) (hr : rs.length ≤ 100000) (hf : rs.flatten.length ≤ 100000) : ∀ (k : Nat) (l : List T36) (i : Nat), rs.length < k + i → i ≤ rs.length → l.length + (rs.drop i).flatten.length ≤ 100000 → slices_Concat'_l3 rs k l i = some (l ++ (rs.drop i).flatten)
  | 0, l, i, h1, h2, h3 => by omega
  | k + 1, l, i, h1, h2, h3 => by
    have ih := concat3 rs hr hf k
    unfold slices_Concat'_l3
    rw [cD]
    by_cases hi : i < rs.length
    · have hw : IntKind.wrap .i64 ((i : Int) + 1) = ((i + 1 : Nat) : Int) := by rw [w64 (by omega) (by omega)]; omega
      rw [List.drop_eq_getElem_cons hi, List.flatten_cons, List.length_append] at h3
      rw [if_pos (by omega), if_pos (by omega), rdD_get _ _ hi, if_pos (by omega), hw, ih _ (i + 1) (by omega) (by omega) (by rw [List.length_append]; omega), List.drop_eq_getElem_cons hi, List.flatten_cons, List.append_assoc]
    · rw [if_neg (by omega), List.drop_eq_nil_of_le (by omega), List.flatten_nil, List.append_nil]; rfl
theorem concat4 (K : Nat) (rs : List (List T36)) (hr : rs.length ≤ 100000) (hf : rs.flatten.length ≤ 100000) : ∀ (k s i : Nat), rs.length < k + i → i ≤ rs.length → s + (rs.drop i).flatten.length ≤ 100000 → slices_Concat'_l4 K rs k s i = slices_Concat'_j1 K rs ((s + (rs.drop i).flatten.length : Nat) : Int)
  | 0, s, i, h1, h2, h3 => by omega
  | k + 1, s, i, h1, h2, h3 => by
    have ih := concat4 K rs hr hf k
    unfold slices_Concat'_l4
    rw [cD]
    by_cases hi : i < rs.length
    · have hw : IntKind.wrap .i64 ((i : Int) + 1) = ((i + 1 : Nat) : Int) := by rw [w64 (by omega) (by omega)]; omega
      rw [List.drop_eq_getElem_cons hi, List.flatten_cons, List.length_append] at h3 ⊢
      have hw2 : IntKind.wrap .i64 ((s : Int) + ((rs[i]).length : Int)) = ((s + rs[i].length : Nat) : Int) := by rw [w64 (by omega) (by omega)]; omega
      rw [if_pos (by omega), if_pos (by omega), rdD_get _ _ hi, hw, hw2, cD, if_neg (by omega), ih _ (i + 1) (by omega) (by omega) (by omega), Nat.add_assoc]
    · rw [if_neg (by omega), List.drop_eq_nil_of_le (by omega)]; rfl
theorem join_eq (K : Nat) (rs : List (List T36)) (hr : rs.length ≤ 100000) (hf : rs.flatten.length ≤ 100000) (hK : rs.length < K) : flow_Join K rs = some rs.flatten := by
  have h4 := concat4 K rs hr hf K 0 0 (by omega) (by omega) (by rw [List.drop_zero]; omega)
  have h3 := concat3 rs hr hf K [] 0 (by omega) (by omega) (by rw [List.drop_zero, List.length_nil]; omega)
  rw [List.drop_zero] at h3 h4
  rw [List.nil_append] at h3
  unfold flow_Join slices_Concat'
  rw [show (0 : Int) = ((0 : Nat) : Int) from rfl, h4]
  unfold slices_Concat'_j1
  rw [grow_eq _ (by omega), bS]
  show ((slices_Concat'_l3 rs K [] ((0 : Nat) : Int)).bind fun t4 => some t4) = _
  rw [h3, bS]
def hd (l : List T36) : T36 := rdD zT36 l 0
theorem good_get (w : Int) : ∀ (rs : List (List T36)), Good w rs → ∀ (i : Nat) (h : i < rs.length), sumW (ru rs[i]) ≤ w ∧ (1 < rs.length → rs[i] ≠ []) ∧ (∀ h2 : i + 1 < rs.length, 0 < (rs[i + 1]).length ∧ sumW (ru rs[i]) + W (rdD zT36 rs[i + 1] 0).Rune > w)
  | [], h, i, hi => h.elim
  | r :: t, h, 0, hi => by
    simp only [List.getElem_cons_zero, List.getElem_cons_succ]
    refine ⟨h.1, fun hl => ?_, fun h2 => ?_⟩
    · rcases h.2 with rfl | ⟨h1, _⟩
      · simp at hl
      · exact h1
    · rcases h.2 with rfl | ⟨_, ⟨g, q, u, rfl, h3⟩, _⟩
      · simp at h2
      · simp only [List.getElem_cons_zero]
        refine ⟨by simp, ?_⟩
        rw [show (0 : Int) = ((0 : Nat) : Int) from rfl, rdD_get _ _ (by simp)]
        exact h3
  | r :: t, h, i + 1, hi => by
    simp only [List.getElem_cons_succ]
    rcases h.2 with rfl | ⟨_, ⟨g, q, u, ht, _⟩, h3⟩
    · simp at hi
    · obtain ⟨g1, g2, g3⟩ := good_get w t h3 i (by simpa using hi)
      refine ⟨g1, fun _ => ?_, fun h2 => g3 (by simpa using h2)⟩
      by_cases c : 1 < t.length
      · exact g2 c
      · have : t.length = 1 := by rw [ht] at c ⊢; simp only [List.length_cons] at c ⊢; omega
        have hi0 : i = 0 := by simp only [List.length_cons] at hi; omega
        subst hi0; subst ht
        simp
end Go.Proofs.YtpciioffkjpieaaDoor.PureF

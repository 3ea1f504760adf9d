/- Plain laws: what the plain functions answer, with no program in sight. -/
import Derived.Test.YtmolecadkgffkaaDoorPN
set_option linter.unusedVariables false
set_option linter.unusedSimpArgs false
namespace Go.Proofs.YtmolecadkgffkaaDoor.Pure
open Go Go.Proofs.XC Go.Proofs.YtmolecadkgffkaaDoor

/-! ### LineReads -/
theorem awake_take {α : Type} (K : Nat) (hK : 30000 ≤ K) (g : Bool → Option α) : (tidewracklaw27_awake K).bind g = g true := by rw [awake_eq K hK, bS]
theorem own_empty (K : Nat) (hK : 30000 ≤ K) : line_Parse K ⟨#[]⟩ = some (E25, 1) := by
  obtain ⟨a, b, e1, _, _, _⟩ := cut_eq ⟨#[]⟩ (by decide)
  have h0 : (⟨#[]⟩ : ByteArray).size = 0 := rfl
  obtain ⟨c, ok, e2, _, _⟩ := suffix_eq b (by omega)
  have hi : decide (0 ≤ idxI 40 (numsOf ⟨#[]⟩)) = false := by decide
  unfold line_Parse line_split
  rw [cD, if_neg (by rw [h0]; omega), e1, bS]
  dsimp only
  rw [e2, bS, hi, Bool.not_false, cond_true]
  unfold line_split_j2
  rw [cond_true, bS, find_eq K (by omega), bS]
  rfl
theorem ref_empty (K : Nat) (hK : 30000 ≤ K) : tidewrackref27_Parse K ⟨#[]⟩ = some (E25, 1) := by
  have h0 : (⟨#[]⟩ : ByteArray).size = 0 := rfl
  unfold tidewrackref27_Parse
  rw [cD, if_neg (by rw [h0]; omega)]
  obtain ⟨j, e1, e2, e3, e4, e5⟩ := scan40 K ⟨#[]⟩ (by omega) K 0 (by omega) (by omega)
  have hj : j = 0 := by omega
  subst hj
  rw [show ((0 : Nat) : Int) = 0 from rfl] at e3
  rw [e3]
  unfold tidewrackref27_Parse_j1
  rw [if_pos (by omega), if_pos (by omega), form_eq, bS]
  rfl
theorem reads_at (K : Nat) (hK : 30000 ≤ K) (s : ByteArray) : (∃ x f, IsL x s f) ∨ ∃ c, c ≠ 0 ∧ line_Parse K s = some (E25, c) ∧ tidewrackref27_Parse K s = some (E25, c) := by
  by_cases hs : s.size ≤ 4000
  · by_cases hn : s = ⟨#[]⟩
    · subst hn
      exact .inr ⟨1, by omega, own_empty K hK, ref_empty K hK⟩
    · obtain ⟨r1, e1, g1⟩ := own_total K hK s hs
      obtain ⟨r2, e2, g2⟩ := ref_total K hK s hs
      rcases g1 with ⟨a1, b1⟩ | ⟨a1, b1⟩
      · rcases g2 with ⟨a2, b2⟩ | ⟨a2, b2⟩
        · refine .inr ⟨1, by omega, ?_, ?_⟩
          · rw [e1, ← a1, ← b1]
          · rw [e2, ← a2, ← b2]
        · obtain ⟨f, h⟩ := isL_of b2 hn
          exact .inl ⟨_, f, h⟩
      · obtain ⟨f, h⟩ := isL_of b1 hn
        exact .inl ⟨_, f, h⟩
  · refine .inr ⟨3, by omega, ?_, ?_⟩
    · unfold line_Parse
      rw [cD, if_pos (by omega)]
    · unfold tidewrackref27_Parse
      rw [cD, if_pos (by omega)]
theorem LineReads (x0 : ByteArray) (w0 : x0.size ≤ 140737488351232) : ∃ K, tidewracklaw27_LineReads K x0 = some true := by
  suffices h : ∀ K, 30000 ≤ K → tidewracklaw27_LineReads K x0 = some true from ⟨30000, h _ (Nat.le_refl _)⟩
  intro K hK
  unfold tidewracklaw27_LineReads
  rw [awake_take K hK, Bool.not_true, cond_false, show (4010 : Int) = ((4010 : Nat) : Int) from rfl, lcut_eq, bS]
  generalize cutF x0 4010 = s
  rcases reads_at K hK s with ⟨x, f, h⟩ | ⟨c, hc, e1, e2⟩
  · have hf := find_some h.hf
    obtain ⟨n1, n2, n3⟩ := h.ok
    rw [own_parse_line K hK s x f h, bS, ref_parse_line K hK s x f h, bS]
    dsimp only
    rw [cE, if_pos rfl, is_eq K hK _ (by omega), bS, cond_true, own_line K hK _ (by have := h.text; omega), bS, h.line]
    show (bif (0 : Int) != 0 then _ else _) = _
    rw [show ((0 : Int) != 0) = false from rfl, cond_false, str_eq, decide_eq_true rfl]
  · rw [e1, bS, e2, bS]
    dsimp only
    rw [cE, if_pos rfl, is_eq K hK _ (by simp), bS, cond_true, show (c != 0) = true from bne_iff_ne.2 hc, cond_true]
end Go.Proofs.YtmolecadkgffkaaDoor.Pure

/- Plain laws: what the plain functions answer, with no program in sight. -/
import Derived.Test.YtbdocgjhidalfaaPS
set_option linter.unusedVariables false
set_option linter.unusedSimpArgs false
namespace Go.Proofs.Ytbdocgjhidalfaa.Pure
open Go Go.Proofs.XC Go.Proofs.Ytbdocgjhidalfaa

theorem setR_eq (K : Nat) (s : T22) (xs : List Int) (h : xs.length ≤ 1000) (hK : xs.length < K) : tidewrackref08_Set K s xs = some (setF s xs) := by
  have := ref_loop xs h K s 0 0 (by omega) (by omega) (by omega)
  simp only [tidewrackref08_Set, setF, cE]
  grind
theorem eq_refl (x : T22) : eqT22 x x = true := by simp [eqT22]
theorem awake_eq (K : Nat) (hK : 4 ≤ K) : tidewracklaw08_awake K = some true := by
  simp only [tidewracklaw08_awake]
  rw [set_eq K _ _ (by simp) (by simp; omega), bS, set_eq K _ _ (by simp) (by simp; omega)]
  rfl
theorem head_cut (n : Int) (xs : List Int) (h : 0 ≤ n) : (if n < (xs.length : Int) then n else (xs.length : Int)).toNat ≤ n.toNat := by split <;> omega
theorem StyleSets (x0 : T22) (w0 : (WF.wfT22) x0) (x1 : List Int) (w1 : ∀ y ∈ x1, (WF.wfi64) y) (l1 : x1.length ≤ maxLen) : ∃ K, tidewracklaw08_StyleSets K x0 x1 = some true := by
  refine ⟨100, ?_⟩
  simp only [tidewracklaw08_StyleSets, awake_eq 100 (by omega), bS, Bool.not_true, cond_false]
  rw [if_pos (by split <;> omega), if_pos (by split <;> omega)]
  have hl : (List.drop 0 (List.take (Int.toNat (if 30 < ((x1).length : Int) then 30 else ((x1).length : Int))) x1)).length ≤ 30 := by
    simp only [List.drop_zero, List.length_take]; split <;> omega
  rw [set_eq _ _ _ (by omega) (by omega), setR_eq _ _ _ (by omega) (by omega), bS, bS, eq_refl]
def mayF (s : T22) : Prop := 0 ≤ s.Fore ∧ s.Fore < 9 ∧ 0 ≤ s.Back ∧ s.Back < 9
instance (s : T22) : Decidable (mayF s) := by unfold mayF; infer_instance
theorem may_eq (s : T22) : style_Style_may s = some (decide (mayF s)) := by simp only [style_Style_may, mayF, cD]; grind
theorem rmay_eq (s : T22) : tidewrackref08_May s = some (decide (mayF s)) := by simp only [tidewrackref08_May, mayF, cD]; grind
def numF (s : T22) : Int := if mayF s then s.Fore + 9 * s.Back + (if s.Bold then 81 else 0) + (if s.Under then 162 else 0) + (if s.Inverse then 324 else 0) else 0
theorem num_eq (s : T22) : style_Style_Num s = some (numF s) := by
  simp only [style_Style_Num, may_eq, bS, style_bit, numF]
  by_cases h : mayF s
  · have h' := h
    obtain ⟨a, b, c, d⟩ := h'
    simp only [h, decide_true, Bool.not_true, cond_false, if_pos]
    cases s.Bold <;> cases s.Under <;> cases s.Inverse <;> simp only [cond_true, cond_false, bS, Bool.false_eq_true, if_true, if_false] <;>
      simp (disch := omega) only [w64] <;> simp
  · simp [h]
theorem rnum_eq (s : T22) : tidewrackref08_Num s = some (numF s) := by
  simp only [tidewrackref08_Num, tidewrackref08_Num_j1, tidewrackref08_Num_j2, rmay_eq, bS, numF]
  by_cases h : mayF s
  · have h' := h
    obtain ⟨a, b, c, d⟩ := h'
    simp only [h, decide_true, Bool.not_true, cond_false, if_pos]
    cases s.Bold <;> cases s.Under <;> cases s.Inverse <;> simp only [cond_true, cond_false, bS, Bool.false_eq_true, if_true, if_false] <;>
      simp (disch := omega) only [w64] <;> simp
  · simp [h]
def ofF (n : Int) : T22 × Int := if 0 ≤ n ∧ n ≤ 647 then (⟨n % 9, n / 9 % 9, n / 81 % 2 == 1, n / 162 % 2 == 1, n / 324 % 2 == 1⟩, 0) else (⟨0, 0, false, false, false⟩, 1)
theorem of_eq (n : Int) : style_Of n = some (ofF n) := by
  simp only [style_Of, style_Of_j1, style_Of_j2, cD, cond_true, ofF]
  by_cases h1 : n < 0
  · rw [if_pos h1, if_neg (by omega)]
  · rw [if_neg h1]
    by_cases h2 : n > 647
    · rw [if_pos h2, if_neg (by omega)]
    · have e : ∀ k : Int, Int.tdiv n k = n / k := fun k => Int.tdiv_eq_ediv_of_nonneg (by omega)
      rw [if_neg h2, if_pos (by omega)]
      simp only [e]
      rw [Int.tmod_eq_emod_of_nonneg (by omega), w64 (by omega) (by omega), w64 (by omega) (by omega), w64 (by omega) (by omega), w64 (by omega) (by omega)]
      rw [Int.tmod_eq_emod_of_nonneg (by omega), Int.tmod_eq_emod_of_nonneg (by omega), Int.tmod_eq_emod_of_nonneg (by omega), Int.tmod_eq_emod_of_nonneg (by omega)]
theorem num_of (n : Int) (h : 0 ≤ n ∧ n ≤ 647) : numF (ofF n).1 = n := by
  simp only [ofF, if_pos h, numF, mayF]
  rw [if_pos (by omega)]
  simp only [beq_iff_eq]
  split <;> split <;> split <;> omega
theorem num_le (s : T22) : 0 ≤ numF s ∧ numF s ≤ 647 := by
  by_cases h : mayF s
  · have h' := h
    obtain ⟨a, b, c, d⟩ := h'
    simp only [numF, if_pos h]
    split <;> split <;> split <;> omega
  · simp [numF, h]
theorem of_num (s : T22) (h : mayF s) : (ofF (numF s)).1 = s := by
  have hn := num_le s
  rw [ofF, if_pos hn]
  obtain ⟨f, b, x, y, z⟩ := s
  have h' := h
  obtain ⟨h1, h2, h3, h4⟩ := h'
  simp only at h1 h2 h3 h4
  simp only [numF, if_pos h]
  cases x <;> cases y <;> cases z <;> simp only [Bool.false_eq_true, if_true, if_false, T22.mk.injEq, beq_iff_eq, beq_eq_false_iff_ne, ne_eq] <;> omega
theorem of_snd (n : Int) : (ofF n).2 = if 0 ≤ n ∧ n ≤ 647 then 0 else 1 := by unfold ofF; split <;> rfl
theorem StyleNums (x0 : T22) (w0 : (WF.wfT22) x0) (x1 : Int) (w1 : (Lit.int .i64 x1).wf = true) : ∃ K, tidewracklaw08_StyleNums K x0 x1 = some true := by
  refine ⟨100, ?_⟩
  have hn := num_le x0
  have h2 : tidewracklaw08_StyleNums_j1 x0 = some true := by
    simp only [tidewracklaw08_StyleNums_j1, num_eq, of_eq, rnum_eq, rmay_eq, bS, beq_self_eq_true, cond_true, of_snd, if_pos hn]
    by_cases h : mayF x0
    · simp only [h, decide_true, Bool.not_true, cond_false, of_num x0 h, eq_refl]
    · simp [h]
  simp only [tidewracklaw08_StyleNums, awake_eq 100 (by omega), bS, Bool.not_true, cond_false, of_eq, num_eq, h2, of_snd]
  by_cases h1 : 0 ≤ x1 ∧ x1 ≤ 647
  · rw [num_of x1 h1]
    simp [h1]
  · simp only [if_neg h1]
    have h3 : (ofF x1).1 = ⟨0, 0, false, false, false⟩ := by rw [ofF, if_neg h1]
    rw [h3]
    by_cases h0 : 0 ≤ x1
    · have : ¬ x1 ≤ 647 := by omega
      simp [h0, this, eq_refl]
    · simp [h0, eq_refl]
theorem one_may (s : T22) (x : Int) (h : mayF s) : mayF (oneF s x) := by
  obtain ⟨a, b, c, d⟩ := h
  unfold oneF mayF
  repeat' split
  all_goals (try dsimp only)
  all_goals omega
theorem run_may : ∀ (xs : List Int) (m : Nat) (s : T22), mayF s → mayF (run m s xs)
  | [], m, s, h => by cases m <;> exact h
  | x :: xs, m + 1, s, h => run_may xs m s h
  | x :: xs, 0, s, h => by
    unfold run
    split
    · exact run_may xs _ s h
    · exact run_may xs 0 _ (one_may s x h)
theorem set_may (s : T22) (xs : List Int) (h : mayF s) : mayF (setF s xs) := by
  unfold setF
  split
  · simp [mayF]
  · exact run_may _ _ _ h
theorem StyleMay (x0 : T22) (w0 : (WF.wfT22) x0) (x1 : List Int) (w1 : ∀ y ∈ x1, (WF.wfi64) y) (l1 : x1.length ≤ maxLen) : ∃ K, tidewracklaw08_StyleMay K x0 x1 = some true := by
  refine ⟨100, ?_⟩
  have hl : (List.drop 0 (List.take (Int.toNat (if 40 < ((x1).length : Int) then 40 else ((x1).length : Int))) x1)).length ≤ 40 := by
    simp only [List.drop_zero, List.length_take]; split <;> omega
  have h2 : ∀ s, mayF s → tidewracklaw08_StyleMay_j1 100 x1 s = some true := by
    intro s hs
    simp only [tidewracklaw08_StyleMay_j1, tidewracklaw08_StyleMay_j2]
    rw [if_pos (by split <;> omega), if_pos (by split <;> omega), set_eq _ _ _ (by omega) (by omega), bS]
    have hm := set_may s (List.drop 0 (List.take (Int.toNat (if 40 < ((x1).length : Int) then 40 else ((x1).length : Int))) x1)) hs
    have hn := num_le (setF s (List.drop 0 (List.take (Int.toNat (if 40 < ((x1).length : Int) then 40 else ((x1).length : Int))) x1)))
    simp only [num_eq, of_eq, rmay_eq, bS, hm, decide_true, cond_true, of_snd, if_pos hn, beq_self_eq_true, of_num _ hm, eq_refl]
  simp only [tidewracklaw08_StyleMay, awake_eq 100 (by omega), bS, Bool.not_true, cond_false, rmay_eq]
  by_cases h : mayF x0
  · simp only [h, decide_true, Bool.not_true, cond_false, h2]
  · simp only [h, decide_false, Bool.not_false, cond_true]
    exact h2 _ (by simp [mayF])
end Go.Proofs.Ytbdocgjhidalfaa.Pure

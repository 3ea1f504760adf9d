/- Plain laws: what the plain functions answer, with no program in sight. -/
import Derived.Test.YtbmkbpdgmbdoeaaDoorPA
set_option linter.unusedVariables false
set_option linter.unusedSimpArgs false
namespace Go.Proofs.YtbmkbpdgmbdoeaaDoor.Pure
open Go Go.Proofs.XC Go.Proofs.YtbmkbpdgmbdoeaaDoor

theorem awake_eq (K : Nat) (hK : 2000 ≤ K) : tidewracklaw06_awake K = some true := by
  unfold tidewracklaw06_awake
  have h32 : I32 [97, 769, 20013] := by unfold I32; decide
  rw [of_eq K (by omega) 97 (by decide) (by decide), bS, show W 97 = 1 from by decide +kernel, cE, if_pos rfl, of_eq K (by omega) 20013 (by decide) (by decide), bS, show W 20013 = 2 from by decide +kernel, cE, if_pos rfl,
    of_eq K (by omega) 769 (by decide) (by decide), bS, show W 769 = 0 from by decide +kernel, cE, if_pos rfl, fit_eq K hK 2 _ (by decide) h32, bS, show fitN 2 [97, 769, 20013] 0 = 2 from by decide +kernel]
  rfl
theorem mn_take (p : List Int) (n : Nat) : mnI (p.length : Int) n = ((min p.length n : Nat) : Int) := by unfold mnI; split <;> omega
theorem i32_take {p : List Int} (h : I32 p) (n : Nat) : I32 (p.take n) := fun r hr => h r (List.mem_of_mem_take hr)
theorem tells_loop (K : Nat) (hK : 2000 ≤ K) (p0 : List Int) (w : Int) (q : List Int) (hq : List.drop 0 (List.take (Int.toNat (mnI ((p0).length : Int) 40)) p0) = q) (hl : q.length ≤ 40) (h32 : I32 q) : ∀ (k i : Nat), q.length < k + i → i ≤ q.length →
    tidewracklaw06_WideTells_l2 K p0 w k (sumW (q.take i)) (q.take i) i = some true
  | 0, i, h1, h2 => by omega
  | k + 1, i, h1, h2 => by
    have ih := tells_loop K hK p0 w q hq hl h32 k
    unfold tidewracklaw06_WideTells_l2
    rw [hq, cD]
    by_cases hi : i < q.length
    · have hw : IntKind.wrap .i64 ((i : Int) + 1) = ((i + 1 : Nat) : Int) := by rw [w64 (by omega) (by omega)]; omega
      have hr := h32 _ (List.getElem_mem hi)
      have hW := W_range q[i]
      have hs := sumW_range (q.take i)
      have ht : q.take (i + 1) = q.take i ++ [q[i]] := by rw [List.take_succ_eq_append_getElem hi]
      have hsum : sumW (q.take (i + 1)) = sumW (q.take i) + W q[i] := by rw [ht, sumW_app]; simp [sumW]
      rw [List.length_take] at hs
      rw [if_pos (by omega), if_pos (by omega), rdD_get _ _ hi, w64 (x := q[i]) (by omega) (by omega), rof_eq K (by omega), bS, of_eq K (by omega) _ hr.1 hr.2, bS, cN, if_pos rfl, if_pos (by simp only [List.length_take, List.length_cons, List.length_nil]; omega), w64 (by omega) (by omega), hw, ← hsum, ← ht]
      exact ih (i + 1) (by omega) (by omega)
    · have : i = q.length := by omega
      subst this
      rw [if_neg (by omega), List.take_length]
      unfold tidewracklaw06_WideTells_j1
      rw [hq, fit_eq K hK w q (by omega) h32, bS, cD, sum_eq K hK q (by omega) h32, bS, bS, cE, cE, if_pos rfl, if_pos rfl, rfit_eq K hK w q (by omega), bS]
      by_cases c : w < 0
      · have : fitN w q 0 = 0 := by
          cases q with
          | nil => rfl
          | cons r q => have := W_range r; unfold fitN; rw [if_pos (by omega)]
        rw [if_pos c, this]; rfl
      · rw [if_neg c, beq_self_eq_true]
theorem few (p0 : List Int) (w0 : ∀ y ∈ p0, (WF.wfi32) y) (n : Nat) (hn : n ≤ 40) : ∃ q, List.drop 0 (List.take (Int.toNat (mnI ((p0).length : Int) n)) p0) = q ∧ q.length ≤ n ∧ I32 q := by
  refine ⟨_, rfl, ?_, ?_⟩
  · rw [mn_take, List.drop_zero, List.length_take]; omega
  · rw [List.drop_zero]
    exact i32_take (fun r hr => wf32 (w0 r hr)) _
theorem WideTells (x0 : List Int) (w0 : ∀ y ∈ x0, (WF.wfi32) y) (l0 : x0.length ≤ maxLen) (x1 : Int) (w1 : (Lit.int .i64 x1).wf = true) : ∃ K, tidewracklaw06_WideTells K x0 x1 = some true := by
  suffices h : ∀ K, 2000 ≤ K → tidewracklaw06_WideTells K x0 x1 = some true from ⟨2000, h _ (Nat.le_refl _)⟩
  intro K hK
  unfold tidewracklaw06_WideTells
  obtain ⟨q, hq, hl, h32⟩ := few x0 w0 40 (by omega)
  have hm := mn_take x0 40
  have := tells_loop K hK x0 x1 q hq hl h32 K 0 (by omega) (by omega)
  rw [show ((40 : Nat) : Int) = 40 from rfl] at hm
  rw [awake_eq K hK, bS, Bool.not_true, cond_false, if_pos (by omega), if_pos (by omega)]
  simpa [sumW] using this
theorem WideFits (x0 : List Int) (w0 : ∀ y ∈ x0, (WF.wfi32) y) (l0 : x0.length ≤ maxLen) (x1 : Int) (w1 : (Lit.int .i64 x1).wf = true) : ∃ K, tidewracklaw06_WideFits K x0 x1 = some true := by
  suffices h : ∀ K, 2000 ≤ K → tidewracklaw06_WideFits K x0 x1 = some true from ⟨2000, h _ (Nat.le_refl _)⟩
  intro K hK
  unfold tidewracklaw06_WideFits
  obtain ⟨q, hq, hl, h32⟩ := few x0 w0 40 (by omega)
  rw [show ((40 : Nat) : Int) = 40 from rfl] at hq
  have hm := mn_take x0 40
  rw [show ((40 : Nat) : Int) = 40 from rfl] at hm
  obtain ⟨w, hw, he⟩ := and_le x1 127 (by decide)
  rw [show ((127 : Nat) : Int) = 127 from rfl] at he
  rw [awake_eq K hK, bS, Bool.not_true, cond_false, if_pos (by omega), if_pos (by omega), hq, he, fit_eq K hK _ q (by omega) h32, bS]
  obtain ⟨s1, s2, s3⟩ := fit_spec (w : Int) q 0 (by omega)
  generalize fitN (w : Int) q 0 = n at *
  have hl1 : (q.take n).length ≤ 1000 := by rw [List.length_take]; omega
  rw [cD, if_neg (by omega), cD, if_neg (by omega), if_pos (by omega), if_pos (by omega), Int.toNat_natCast, List.drop_zero, sum_eq K hK _ hl1 (i32_take h32 _), bS, cD, if_neg (by omega)]
  unfold tidewracklaw06_WideFits_j1
  rw [hq, he, cE]
  by_cases c : n = q.length
  · rw [if_pos (by omega)]
  · have hn : n < q.length := by omega
    have hw2 : IntKind.wrap .i64 ((n : Int) + 1) = ((n + 1 : Nat) : Int) := by rw [w64 (by omega) (by omega)]; omega
    have hl2 : (q.take (n + 1)).length ≤ 1000 := by rw [List.length_take]; omega
    have hs3 := s3 hn
    have ht : q.take (n + 1) = q.take n ++ [q[n]] := by rw [List.take_succ_eq_append_getElem hn]
    have hsum : sumW (q.take (n + 1)) = sumW (q.take n) + W q[n] := by rw [ht, sumW_app]; simp [sumW]
    have hr := h32 _ (List.getElem_mem hn)
    rw [if_neg (by omega), hw2, if_pos (by omega), if_pos (by omega), Int.toNat_natCast, List.drop_zero, sum_eq K hK _ hl2 (i32_take h32 _), bS, cD, if_pos (by omega), if_pos (by omega), rdD_get _ _ hn, of_eq K (by omega) _ hr.1 hr.2, bS, decide_eq_true (by omega)]
theorem WideAdds (x0 : List Int) (w0 : ∀ y ∈ x0, (WF.wfi32) y) (l0 : x0.length ≤ maxLen) (x1 : List Int) (w1 : ∀ y ∈ x1, (WF.wfi32) y) (l1 : x1.length ≤ maxLen) (x2 : Int) (w2 : (Lit.int .i64 x2).wf = true) : ∃ K, tidewracklaw06_WideAdds K x0 x1 x2 = some true := by
  suffices h : ∀ K, 2000 ≤ K → tidewracklaw06_WideAdds K x0 x1 x2 = some true from ⟨2000, h _ (Nat.le_refl _)⟩
  intro K hK
  unfold tidewracklaw06_WideAdds
  obtain ⟨a, ha, la, a32⟩ := few x0 w0 30 (by omega)
  obtain ⟨b, hb, lb, b32⟩ := few x1 w1 30 (by omega)
  rw [show ((30 : Nat) : Int) = 30 from rfl] at ha hb
  have hm := mn_take x0 30
  have hm2 := mn_take x1 30
  rw [show ((30 : Nat) : Int) = 30 from rfl] at hm hm2
  obtain ⟨w, hw, he⟩ := and_le x2 63 (by decide)
  rw [show ((63 : Nat) : Int) = 63 from rfl] at he
  have hab : (a ++ b).length ≤ 1000 := by rw [List.length_append]; omega
  have ab32 : I32 (a ++ b) := fun r hr => (List.mem_append.1 hr).elim (a32 r) (b32 r)
  have hsa := sumW_range a
  have hsb := sumW_range b
  rw [awake_eq K hK, bS, Bool.not_true, cond_false, if_pos (by omega), if_pos (by omega), if_pos (by omega), if_pos (by omega), ha, hb, he]
  simp only [List.nil_append]
  rw [if_pos (by simp only [List.length_nil]; omega), if_pos (by omega), w64 (x := (w : Int) + 1) (by omega) (by omega), fit_eq K hK _ _ hab ab32, bS, fit_eq K hK _ _ hab ab32, bS, sum_eq K hK _ hab ab32, bS, sum_eq K hK a (by omega) a32, bS, sum_eq K hK b (by omega) b32, bS,
    w64 (by omega) (by omega), sumW_app, cE, if_pos rfl, cD, if_pos (by have := fit_mono (w : Int) ((w : Int) + 1) (by omega) (a ++ b) 0; omega), bS]
  have hf := fit_all (w : Int) (a ++ b) (by omega)
  rw [sumW_app] at hf
  congr 1
  by_cases c : sumW a + sumW b > (w : Int)
  · rw [decide_eq_true c, decide_eq_true (by have := hf.1 c; omega)]; rfl
  · rw [decide_eq_false c, decide_eq_false (by have := fun h => c (hf.2 h); omega)]; rfl
end Go.Proofs.YtbmkbpdgmbdoeaaDoor.Pure

/- Plain laws: what the plain functions answer, with no program in sight. -/
import Derived.Test.YtmgkcahjpehckaaDoorPB
set_option linter.unusedVariables false
set_option linter.unusedSimpArgs false
namespace Go.Proofs.YtmgkcahjpehckaaDoor.Pure
open Go Go.Proofs.XC Go.Proofs.YtmgkcahjpehckaaDoor

def cutF (s : ByteArray) (n : Nat) : ByteArray := if s.size > n then s.extract 0 n else s
theorem cut_eq (s : ByteArray) (n : Nat) : tidewracklaw01_Cut s (n : Int) = some (cutF s n) := by
  simp only [tidewracklaw01_Cut, cutF, cD]
  by_cases h : s.size > n
  · rw [if_pos (by omega), if_pos (by omega), if_pos (by omega), if_pos h]; simp
  · rw [if_neg (by omega), if_neg h]
theorem cut_size (s : ByteArray) (n : Nat) : (cutF s n).size ≤ n := by
  unfold cutF; split
  · simp [ByteArray.size_extract]; omega
  · omega
theorem few_loop (p : List ByteArray) : ∀ (k : Nat) (l : List ByteArray) (i : Nat), 5 < k + i → i ≤ 5 → l.length ≤ i → (∀ s ∈ l, s.size ≤ 60) → ∃ r, tidewracklaw01_Few_l2 p 5 60 k l i = some r ∧ r.length ≤ 5 ∧ ∀ s ∈ r, s.size ≤ 60
  | 0, l, i, h, h', hl, hs => by omega
  | k + 1, l, i, h, h', hl, hs => by
    have ih := few_loop p k
    unfold tidewracklaw01_Few_l2
    by_cases c1 : (i : Int) < (p.length : Int)
    · by_cases c2 : (i : Int) < 5
      · have hw : IntKind.wrap .i64 ((i : Int) + 1) = ((i + 1 : Nat) : Int) := by rw [w64 (by omega) (by omega)]; omega
        rw [cD, if_pos c1, cD, if_pos c2]
        unfold tidewracklaw01_Few_j3
        rw [if_pos (by omega), show (60 : Int) = ((60 : Nat) : Int) from rfl, cut_eq, bS, if_pos (by simp; omega), hw]
        refine ih _ (i + 1) (by omega) (by omega) (by simp; omega) (fun s hs' => ?_)
        rcases List.mem_append.1 hs' with h1 | h1
        · exact hs s h1
        · simp only [List.mem_singleton] at h1; subst h1; exact cut_size _ 60
      · exact ⟨l, by rw [cD, if_pos c1, cD, if_neg c2]; rfl, by omega, hs⟩
    · exact ⟨l, by rw [cD, if_neg c1]; rfl, by omega, hs⟩
theorem few_eq (K : Nat) (hK : 6 ≤ K) (p : List ByteArray) : ∃ r, tidewracklaw01_Few K p 5 60 = some r ∧ r.length ≤ 5 ∧ ∀ s ∈ r, s.size ≤ 60 := by
  have := few_loop p K [] 0 (by omega) (by omega) (by simp) (by simp)
  unfold tidewracklaw01_Few
  exact this
theorem tells_loop (K : Nat) (t : List ByteArray) (ht : t.length ≤ 5) (hs : ∀ s ∈ t, s.size ≤ 60) : ∀ (k : Nat) (acc : ByteArray) (i : Nat), t.length < k + i → i ≤ t.length → nb acc = (t.take i).flatMap nb → acc.size ≤ 60 * i →
    ∃ all, tidewracklaw02_SumTells_l2 K t k acc i = tidewracklaw02_SumTells_j1 K t all ∧ nb all = t.flatMap nb ∧ all.size ≤ 300
  | 0, acc, i, h, h', ha, hz => by omega
  | k + 1, acc, i, h, h', ha, hz => by
    have ih := tells_loop K t ht hs k
    unfold tidewracklaw02_SumTells_l2
    by_cases hi : i < t.length
    · have hw : IntKind.wrap .i64 ((i : Int) + 1) = ((i + 1 : Nat) : Int) := by rw [w64 (by omega) (by omega)]; omega
      have h60 := hs _ (List.getElem_mem hi)
      have hsz : (acc ++ t[i]).size = acc.size + t[i].size := ByteArray.size_append
      rw [cD, if_pos (by omega), if_pos (by omega), rdD_get _ _ hi, if_pos (by omega), hw]
      refine ih _ (i + 1) (by omega) (by omega) ?_ (by rw [hsz]; omega)
      rw [nb_append, ha, List.take_succ_eq_append_getElem hi, List.flatMap_append]
      simp
    · refine ⟨acc, ?_, ?_, by omega⟩
      · rw [cD, if_neg (by omega)]
      · rw [ha, List.take_of_length_le (by omega)]
theorem SumTells (x0 : List ByteArray) (w0 : ∀ y ∈ x0, (WF.wfStr) y) (l0 : x0.length ≤ maxLen) : ∃ K, tidewracklaw02_SumTells K x0 = some true := by
  suffices h : ∀ K, 1000 ≤ K → tidewracklaw02_SumTells K x0 = some true from ⟨1000, h _ (Nat.le_refl _)⟩
  intro K hK
  obtain ⟨t, et, ht, hs⟩ := few_eq K (by omega) x0
  unfold tidewracklaw02_SumTells
  rw [awake_eq K (by omega), bS, Bool.not_true, cond_false, et, bS]
  obtain ⟨all, e, en, hz⟩ := tells_loop K t ht hs K ⟨#[]⟩ 0 (by omega) (by omega) rfl (by show (0 : Nat) ≤ _; omega)
  rw [show ((0 : Nat) : Int) = 0 from rfl] at e
  have hl := sumF_lt (nb all) (nb_b8 all)
  rw [e, tidewracklaw02_SumTells_j1, of_eq K t (by omega) (by omega) (fun s h => by have := hs s h; omega), bS, ref_eq K (by omega) all (by omega) (by omega), bS, en]
  rw [en] at hl
  rw [w64 (by omega) (by omega), beq_self_eq_true, cond_true, seal_eq K all (by omega) (by omega) (by omega), bS, rseal_eq K (by omega) all (by omega) (by omega), bS, beq_self_eq_true]
/-! ### What is opened -/
def openF (s : ByteArray) : ByteArray × Bool :=
  if s.size < 4 then (⟨#[]⟩, false) else if s.extract (s.size - 4) s.size = sOf (tailF (sumF (nb (s.extract 0 (s.size - 4))))) then (s.extract 0 (s.size - 4), true) else (⟨#[]⟩, false)
theorem open_eq (K : Nat) (s : ByteArray) (hs : s.size ≤ 1000000) (hK : s.size < K) (hK1 : 1 < K) : sum_Open K s = some (openF s) := by
  unfold sum_Open openF
  by_cases h : s.size < 4
  · rw [w64 (by omega) (by omega), cD, if_pos (by omega), if_pos h]; rfl
  · have hw : IntKind.wrap .i64 ((s.size : Int) - 4) = ((s.size - 4 : Nat) : Int) := by rw [w64 (by omega) (by omega)]; omega
    have hz : (s.extract 0 (s.size - 4)).size ≤ s.size := by rw [ByteArray.size_extract]; omega
    rw [hw, cD, if_neg (by omega), if_pos (by omega), if_pos (by omega), if_neg h, Int.toNat_natCast, of_one K _ (by omega) (by omega) hK1, bS, tail_eq, bS, str_eq]
    unfold sum_Open_j1
    rw [hw, if_pos (by omega), if_pos (by omega), Int.toNat_natCast]
    by_cases c : s.extract (s.size - 4) s.size = sOf (tailF (sumF (nb (s.extract 0 (s.size - 4)))))
    · rw [if_pos c, decide_eq_true c]; rfl
    · rw [if_neg c, decide_eq_false c]; rfl
theorem split4 (s : ByteArray) (h : ¬ s.size < 4) : s.extract 0 (s.size - 4) ++ s.extract (s.size - 4) s.size = s := by
  apply nb_inj
  rw [nb_append, nb_extract, nb_extract, ← nb_len s, List.take_length, List.drop_zero, List.take_append_drop]
theorem ropen_eq (K : Nat) (hK9 : 9 ≤ K) (s : ByteArray) (hs : s.size ≤ 1000000) (hK : s.size < K) : tidewrackref02_Open K s = some (openF s) := by
  unfold tidewrackref02_Open openF
  by_cases h : s.size < 4
  · rw [cD, if_pos (by omega), if_pos h]; rfl
  · have hw : IntKind.wrap .i64 ((s.size : Int) - 4) = ((s.size - 4 : Nat) : Int) := by rw [w64 (by omega) (by omega)]; omega
    have hz : (s.extract 0 (s.size - 4)).size ≤ s.size := by rw [ByteArray.size_extract]; omega
    rw [cD, if_neg (by omega), hw, if_pos (by omega), if_pos (by omega), if_neg h, Int.toNat_natCast, rseal_eq K hK9 _ (by omega) (by omega), bS, str_eq]
    unfold tidewrackref02_Open_j1
    rw [hw, if_pos (by omega), if_pos (by omega), Int.toNat_natCast]
    have hsp := split4 s h
    by_cases c : s.extract (s.size - 4) s.size = sOf (tailF (sumF (nb (s.extract 0 (s.size - 4)))))
    · have : sealF (s.extract 0 (s.size - 4)) = s := by unfold sealF; rw [← c, hsp]
      rw [if_pos c, decide_eq_true this]; rfl
    · have : ¬ sealF (s.extract 0 (s.size - 4)) = s := by
        intro e
        apply c
        apply nb_inj
        have e2 : s.extract 0 (s.size - 4) ++ sOf (tailF (sumF (nb (s.extract 0 (s.size - 4))))) = s.extract 0 (s.size - 4) ++ s.extract (s.size - 4) s.size := by rw [hsp]; exact e
        have e4 := congrArg nb e2
        rw [nb_append, nb_append] at e4
        have e3 := List.append_cancel_left e4
        exact e3.symm
      rw [if_neg c, decide_eq_false this]; rfl
theorem seal_size (s : ByteArray) : (sealF s).size = s.size + 4 := by
  unfold sealF
  have : (s ++ sOf (tailF (sumF (nb s)))).size = s.size + (sOf (tailF (sumF (nb s)))).size := ByteArray.size_append
  rw [this, tail_len]
theorem open_seal (s : ByteArray) : openF (sealF s) = (s, true) := by
  have hz := seal_size s
  have e1 : (sealF s).extract 0 ((sealF s).size - 4) = s := by
    apply nb_inj
    rw [nb_extract, hz, List.drop_zero]
    unfold sealF
    rw [nb_append, List.take_append_of_le_length (by rw [nb_len]; omega), List.take_of_length_le (by rw [nb_len]; omega)]
  have e2 : (sealF s).extract ((sealF s).size - 4) (sealF s).size = sOf (tailF (sumF (nb s))) := by
    apply nb_inj
    rw [nb_extract, ← nb_len (sealF s), List.take_length, nb_len, hz]
    unfold sealF
    rw [nb_append, show s.size + 4 - 4 = (nb s).length by rw [nb_len]; omega, List.drop_left]
  unfold openF
  rw [if_neg (by omega), e1, e2, if_pos rfl]
theorem SumOpens (x0 : ByteArray) (w0 : x0.size ≤ 140737488351232) : ∃ K, tidewracklaw02_SumOpens K x0 = some true := by
  suffices h : ∀ K, 1000 ≤ K → tidewracklaw02_SumOpens K x0 = some true from ⟨1000, h _ (Nat.le_refl _)⟩
  intro K hK
  have hsz := cut_size x0 120
  unfold tidewracklaw02_SumOpens
  rw [awake_eq K (by omega), bS, Bool.not_true, cond_false, show (120 : Int) = ((120 : Nat) : Int) from rfl, cut_eq, bS]
  generalize cutF x0 120 = s at *
  have hz := seal_size s
  rw [open_eq K s (by omega) (by omega) (by omega), bS, ropen_eq K (by omega) s (by omega) (by omega), bS, seal_eq K s (by omega) (by omega) (by omega), bS, open_eq K _ (by omega) (by omega) (by omega), bS, open_seal]
  simp only [beq_self_eq_true, cond_true]
end Go.Proofs.YtmgkcahjpehckaaDoor.Pure

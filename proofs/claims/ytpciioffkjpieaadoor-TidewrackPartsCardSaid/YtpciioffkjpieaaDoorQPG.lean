/- Plain laws: what the plain functions answer, with no program in sight. -/
import Derived.Test.YtpciioffkjpieaaDoorQPF
set_option linter.unusedVariables false
set_option linter.unusedSimpArgs false
namespace Go.Proofs.YtpciioffkjpieaaDoor.Pure
open Go Go.Proofs.XC Go.Proofs.YtpciioffkjpieaaDoor

def openF (s : ByteArray) : ByteArray × Bool :=
  if s.size < 4 then (⟨#[]⟩, false) else if s.extract (s.size - 4) s.size = sOf (tailF (sumF (nb (s.extract 0 (s.size - 4))))) then (s.extract 0 (s.size - 4), true) else (⟨#[]⟩, false)
theorem open_eq (K : Nat) (s : ByteArray) (hs : s.size ≤ 1000000) (hK : s.size < K) (hK1 : 1 < K) : sum_Open K s = some (openF s) := by
  unfold sum_Open openF
  by_cases h : s.size < 4
  · rw [w64 (by omega) (by omega), cD, if_pos (by omega), if_pos h]; rfl
  · have hw : IntKind.wrap .i64 ((s.size : Int) - 4) = ((s.size - 4 : Nat) : Int) := by rw [w64 (by omega) (by omega)]; omega
    have hz : (s.extract 0 (s.size - 4)).size ≤ s.size := by rw [ByteArray.size_extract]; omega
    rw [hw, cD, if_neg (by omega), if_pos (by omega), if_pos (by omega), if_neg h, Int.toNat_natCast, of_one K _ (by omega) (by omega) hK1, bS, tail_eq, bS, str_eq]
    unfold sum_Open_j1
    rw [hw, if_pos (by omega), if_pos (by omega), Int.toNat_natCast]
    by_cases c : s.extract (s.size - 4) s.size = sOf (tailF (sumF (nb (s.extract 0 (s.size - 4)))))
    · rw [if_pos c, decide_eq_true c]; rfl
    · rw [if_neg c, decide_eq_false c]; rfl
theorem split4 (s : ByteArray) (h : ¬ s.size < 4) : s.extract 0 (s.size - 4) ++ s.extract (s.size - 4) s.size = s := by
  apply nb_inj
  rw [nb_append, nb_extract, nb_extract, ← nb_len s, List.take_length, List.drop_zero, List.take_append_drop]
theorem seal_size (s : ByteArray) : (sealF s).size = s.size + 4 := by
  unfold sealF
  have : (s ++ sOf (tailF (sumF (nb s)))).size = s.size + (sOf (tailF (sumF (nb s)))).size := ByteArray.size_append
  rw [this, tail_len]
theorem open_seal (s : ByteArray) : openF (sealF s) = (s, true) := by
  have hz := seal_size s
  have e1 : (sealF s).extract 0 ((sealF s).size - 4) = s := by
    apply nb_inj
    rw [nb_extract, hz, List.drop_zero]
    unfold sealF
    rw [nb_append, List.take_append_of_le_length (by rw [nb_len]; omega), List.take_of_length_le (by rw [nb_len]; omega)]
  have e2 : (sealF s).extract ((sealF s).size - 4) (sealF s).size = sOf (tailF (sumF (nb s))) := by
    apply nb_inj
    rw [nb_extract, ← nb_len (sealF s), List.take_length, nb_len, hz]
    unfold sealF
    rw [nb_append, show s.size + 4 - 4 = (nb s).length by rw [nb_len]; omega, List.drop_left]
  unfold openF
  rw [if_neg (by omega), e1, e2, if_pos rfl]
end Go.Proofs.YtpciioffkjpieaaDoor.Pure

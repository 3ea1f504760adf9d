/- Plain laws: what the plain functions answer, with no program in sight. -/
import Derived.Test.YtpciioffkjpieaaDoorQPK
set_option linter.unusedVariables false
set_option linter.unusedSimpArgs false
namespace Go.Proofs.YtpciioffkjpieaaDoor.Pure
open Go Go.Proofs.XC Go.Proofs.YtpciioffkjpieaaDoor

theorem bytes_ne (g : T76) : bytesF g ≠ E0 := fun h => by
  have h2 : (bytesF g).size = (strOfNums (body g)).size + 4 := seal_size _
  rw [h] at h2
  have : (E0 : ByteArray).size = 0 := rfl
  omega
theorem seal_inj {a b : ByteArray} (h : sealF a = sealF b) : a = b := by
  have h1 := open_seal a
  rw [h, open_seal b] at h1
  exact (Prod.mk.inj h1).1.symm
theorem gnum_eq (g : T76) (i : Int) (h : g.Nums.length ≤ 1000) : gram_Gram_Num g i = some (if 0 ≤ i ∧ i < (g.Nums.length : Int) then rdD 0 g.Nums i else 0) := by
  unfold gram_Gram_Num
  rw [within_eq, bS, cNB, w64 (by omega) (by omega)]
  simp only [decide_eq_true_eq]
  by_cases c : 0 ≤ i ∧ i < (g.Nums.length : Int)
  · rw [if_pos (by omega), if_pos c, if_pos c]
  · rw [if_neg (by omega), if_neg c]
theorem burst (K : Nat) (hK : 100 ≤ K) (s : ByteArray) (hs : s.size ≤ 900) (p : Int) (m : Nat) (hm : m < 2 ^ 32) : ∃ u, sum_Turn K (sealF s) p m = some u ∧ u.size = s.size + 4 ∧ (u ≠ sealF s → (openF u).2 = false) := by
  have hz := seal_size s
  have hop : (openF (sealF s)).2 = true := by rw [open_seal]
  generalize sealF s = t at *
  obtain ⟨u, eu, zu, nu⟩ := turn_eq K (by omega) t p m (by omega) hm
  refine ⟨u, eu, by omega, fun hut => ?_⟩
  have hcl := (clamp_eq t p (by omega)).2
  have h1 := (open_iff t (by omega)).1 hop
  have h2 := open_iff u (by omega)
  rw [crc_num _ _ (nb_b8 _), nb_len] at h1 h2
  rw [nu, zu, ← Nat.xor_assoc, stn_xor, h1] at h2
  have hd : diff t.size (clampAt p t.size) m = 2 ^ clampAt p t.size * (m % 2 ^ (8 * t.size - clampAt p t.size)) := by
    unfold diff
    have : 2 ^ (8 * t.size) = 2 ^ clampAt p t.size * 2 ^ (8 * t.size - clampAt p t.size) := by rw [← Nat.pow_add]; congr 1; omega
    rw [this, Nat.mul_mod_mul_left]
  have hst : stn (8 * t.size) (diff t.size (clampAt p t.size) m) = stn (8 * t.size - clampAt p t.size) (m % 2 ^ (8 * t.size - clampAt p t.size)) := by
    have e : 8 * t.size = clampAt p t.size + (8 * t.size - clampAt p t.size) := by omega
    rw [hd]
    conv => lhs; rw [e]
    rw [stn_add, show clampAt p t.size + (8 * t.size - clampAt p t.size) - clampAt p t.size = 8 * t.size - clampAt p t.size by omega, stn_pow]
  have hlt : m % 2 ^ (8 * t.size - clampAt p t.size) < 2 ^ 32 := Nat.lt_of_le_of_lt (Nat.mod_le _ _) hm
  have : ¬ (openF u).2 = true := by
    rw [h2]
    intro e
    apply hut
    have e1 : stn (8 * t.size) (diff t.size (clampAt p t.size) m) = 0 := by
      have := congrArg (fun z => stn 32 ones ^^^ z) e
      simpa [← Nat.xor_assoc] using this
    rw [hst] at e1
    have e2 := stn_inj0 _ hlt e1
    refine text_inj zu ?_
    rw [nu, hd, e2]; simp
  simpa using this
end Go.Proofs.YtpciioffkjpieaaDoor.Pure

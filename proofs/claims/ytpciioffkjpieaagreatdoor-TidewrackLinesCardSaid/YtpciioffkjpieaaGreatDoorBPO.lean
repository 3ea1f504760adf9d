/- Plain laws: what the plain functions answer, with no program in sight. -/
import Derived.Test.YtpciioffkjpieaaGreatDoorD
set_option linter.unusedVariables false
set_option linter.unusedSimpArgs false
namespace Go.Proofs.YtpciioffkjpieaaGreatDoor.Pure
open Go Go.Proofs.XC Go.Proofs.YtpciioffkjpieaaGreatDoor

/-! ### A number's bytes -/
def clipN (n : Int) : Nat := (mxI 0 (mnI n 4611686018427387904)).toNat
theorem clip_cast (n : Int) : mxI 0 (mnI n 4611686018427387904) = (clipN n : Int) := by unfold clipN mxI mnI; split <;> split <;> omega
theorem clip_le (n : Int) : clipN n ≤ 4611686018427387904 := by unfold clipN mxI mnI; split <;> split <;> omega
def dg (n : Nat) : List Int := if n < 128 then [(n : Int)] else ((n % 128 + 128 : Nat) : Int) :: dg (n / 128)
termination_by n
decreasing_by omega
theorem dg_lt {n : Nat} (h : n < 128) : dg n = [(n : Int)] := by rw [dg, if_pos h]
theorem dg_ge {n : Nat} (h : ¬ n < 128) : dg n = ((n % 128 + 128 : Nat) : Int) :: dg (n / 128) := by rw [dg, if_neg h]
theorem dg_b : ∀ (k n : Nat), n < 128 ^ (k + 1) → B256 (dg n) ∧ (dg n).length ≤ k + 1 ∧ 1 ≤ (dg n).length
  | 0, n, h => by
    rw [dg_lt (by omega)]
    refine ⟨fun c hc => ?_, by simp, by simp⟩
    simp only [List.mem_singleton] at hc; subst hc; omega
  | k + 1, n, h => by
    by_cases c : n < 128
    · rw [dg_lt c]
      refine ⟨fun c hc => ?_, by simp, by simp⟩
      simp only [List.mem_singleton] at hc; subst hc; omega
    · rw [dg_ge c]
      obtain ⟨h1, h2, h3⟩ := dg_b k (n / 128) (by rw [Nat.pow_succ] at h; omega)
      refine ⟨fun c hc => ?_, by simp only [List.length_cons]; omega, by simp⟩
      rcases List.mem_cons.1 hc with rfl | hc
      · omega
      · exact h1 c hc
theorem dg9 {n : Nat} (h : n ≤ 4611686018427387904) : B256 (dg n) ∧ (dg n).length ≤ 9 ∧ 1 ≤ (dg n).length := dg_b 8 n (by omega)
theorem byteF (m : Nat) (h : m < 256) : bits .or .u8 (bits .and .u8 (m : Int) 127) 128 = ((m % 128 + 128 : Nat) : Int) := by
  have : ∀ m : Fin 256, bits .or .u8 (bits .and .u8 ((m : Nat) : Int) 127) 128 = (((m : Nat) % 128 + 128 : Nat) : Int) := by decide +kernel
  exact this ⟨m, h⟩
theorem wu8 (n : Nat) : IntKind.wrap .u8 (n : Int) = ((n % 256 : Nat) : Int) := by rw [IntKind.wrap_u8]; omega
theorem digits_loop : ∀ (k n K : Nat), n < 128 ^ (k + 1) → k + 1 ≤ K → num_digits_1_l2 K n = some (dg n)
  | k, n, 0, h, hK => by omega
  | k, n, K + 1, h, hK => by
    unfold num_digits_1_l2
    rw [cD]
    by_cases c : n < 128
    · rw [if_neg (by omega), num_digits_1_j1, dg_lt c, wu8, Nat.mod_eq_of_lt (by omega)]
      rfl
    · rw [if_pos (by omega), show (2 : Int) ^ min (Int.toNat 7) 64 = 2 ^ min (Int.toNat ((7 : Nat) : Int)) 64 from rfl, fdiv_nat n 7 128 64 (by decide) rfl, wu8, byteF _ (by omega), dg_ge c]
      cases k with
      | zero => omega
      | succ k =>
        rw [digits_loop k (n / 128) K (by rw [Nat.pow_succ] at h; omega) (by omega)]
        simp only [Option.map_some]
        congr 3
        omega
theorem digits_eq (K : Nat) (hK : 9 ≤ K) (n : Int) : num_digits_1 K n = some (dg (clipN n)) := by
  unfold num_digits_1 num_clip
  rw [clip_cast, bS]
  exact digits_loop 8 _ K (by have := clip_le n; omega) hK
/-! ### What is written -/
def catN (l : List Int) : List Int := l.flatMap fun n => dg (clipN n)
theorem catN_len : ∀ (l : List Int), (catN l).length ≤ 9 * l.length
  | [] => by simp [catN]
  | x :: l => by
    have := catN_len l; have := (dg9 (clip_le x)).2.1
    simp only [catN, List.flatMap_cons, List.length_append, List.length_cons] at *; omega
theorem onum_round (x : Int) (lp : List Int → Int → Option T128) : ∀ (ds l : List Int), l.length + ds.length ≤ 1000000000 → num_Out_Num_r4 x lp ds l = lp (l ++ ds) (IntKind.wrap .i64 (x + 1))
  | [], l, _ => by simp [num_Out_Num_r4, num_Out_Num_j3]
  | d :: ds, l, h => by
    simp only [List.length_cons] at h
    unfold num_Out_Num_r4
    rw [if_pos (by simp; omega), num_Out_Num_j5, onum_round x lp ds _ (by simp; omega)]
    simp
theorem onum_loop (K : Nat) (hK : 9 ≤ K) (p : List Int) (hp : p.length ≤ 1000) : ∀ (k : Nat) (l : List Int) (i : Nat), p.length < k + i → i ≤ p.length → l.length + 9 * (p.length - i) ≤ 1000000000 → num_Out_Num_l2 K p k l i = some ⟨l ++ catN (p.drop i)⟩
  | 0, l, i, h, h', hl => by omega
  | k + 1, l, i, h, h', hl => by
    have ih := onum_loop K hK p hp k
    unfold num_Out_Num_l2
    by_cases hi : i < p.length
    · have hw : IntKind.wrap .i64 ((i : Int) + 1) = ((i + 1 : Nat) : Int) := by rw [w64 (by omega) (by omega)]; omega
      have h9 := (dg9 (clip_le p[i])).2.1
      rw [cD, if_pos (by omega), if_pos (by omega), rdD_get _ _ hi, num_digits, bS, digits_eq K hK, bS, onum_round _ _ _ _ (by omega), hw, ih _ (i + 1) (by omega) (by omega) (by simp only [List.length_append]; omega), List.drop_eq_getElem_cons hi]
      simp only [catN, List.flatMap_cons, List.append_assoc]
    · rw [cD, if_neg (by omega), List.drop_eq_nil_of_le (by omega)]
      simp [num_Out_Num_j1, catN]
theorem onum_eq (K : Nat) (b p : List Int) (hp : p.length ≤ 1000) (hK : p.length + 9 ≤ K) (hb : b.length ≤ 900000000) : num_Out_Num K ⟨b⟩ p = some ⟨b ++ catN p⟩ := by
  unfold num_Out_Num
  have := onum_loop K (by omega) p hp K b 0 (by omega) (by omega) (by omega)
  simpa using this
/-! ### The document's -/
end Go.Proofs.YtpciioffkjpieaaGreatDoor.Pure

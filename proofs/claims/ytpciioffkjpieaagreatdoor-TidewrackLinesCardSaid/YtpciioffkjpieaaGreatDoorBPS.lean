/- Plain laws: what the plain functions answer, with no program in sight. -/
import Derived.Test.YtpciioffkjpieaaGreatDoorBPO
import Derived.Laws.BitsLemmas
set_option linter.unusedVariables false
set_option linter.unusedSimpArgs false
namespace Go.Proofs.YtpciioffkjpieaaGreatDoor.Pure
open Go Go.Proofs.XC Go.Proofs.YtpciioffkjpieaaGreatDoor

/-! ### Bits of natural numbers -/
theorem bx_nat (k : IntKind) (j : Nat) (hj : j ≤ k.bits) (hk : ∀ n : Int, 0 ≤ n → n < 2 ^ j → k.wrap n = n) (a b : Nat) (ha : a < 2 ^ j) (hb : b < 2 ^ j) : bits .xor k a b = ((a ^^^ b : Nat) : Int) := by
  have hp : 2 ^ j ≤ 2 ^ k.bits := Nat.pow_le_pow_right (by decide) hj
  have ha' : a % 2 ^ k.bits = a := Nat.mod_eq_of_lt (Nat.lt_of_lt_of_le ha hp)
  have hb' : b % 2 ^ k.bits = b := Nat.mod_eq_of_lt (Nat.lt_of_lt_of_le hb hp)
  simp only [bits, BitVec.ofInt_natCast, BitVec.toNat_xor, BitVec.toNat_ofNat, ha', hb']
  exact hk _ (Int.natCast_nonneg _) (by exact_mod_cast Nat.xor_lt_two_pow ha hb)
theorem wraps_u32 (n : Int) (h₀ : 0 ≤ n) (h₁ : n < 2 ^ 32) : IntKind.u32.wrap n = n := by rw [IntKind.wrap_u32]; omega
theorem bx32 {a b : Nat} (ha : a < 2 ^ 32) (hb : b < 2 ^ 32) : bits .xor .u32 a b = ((a ^^^ b : Nat) : Int) := bx_nat .u32 32 (by decide) wraps_u32 a b ha hb
theorem and15 {a : Nat} (ha : a < 2 ^ 32) : bits .and .u32 a 15 = ((a % 16 : Nat) : Int) := by
  have := bits_mask .u32 32 (by decide) wraps_u32 4 (by decide) a (by omega) (by exact_mod_cast ha)
  exact this
theorem fd (a k n : Nat) (h : k < 32) (hn : 2 ^ k = n) : Int.fdiv (a : Int) (2 ^ min (Int.toNat (k : Int)) 32) = ((a / n : Nat) : Int) := by
  subst hn
  have : min (Int.toNat (k : Int)) 32 = k := by simp; omega
  rw [this, Int.fdiv_eq_ediv_of_nonneg _ (by exact_mod_cast Nat.zero_le _)]
  simp

/-! ### A bit more: the shift register -/
def PP : Nat := 3988292384
def st1 (x : Nat) : Nat := (x >>> 1) ^^^ (if x.testBit 0 then PP else 0)
theorem st1_xor (a b : Nat) : st1 (a ^^^ b) = st1 a ^^^ st1 b := by
  unfold st1
  rw [Nat.shiftRight_xor_distrib, Nat.testBit_xor]
  generalize a >>> 1 = x
  generalize b >>> 1 = y
  cases a.testBit 0 <;> cases b.testBit 0 <;> simp only [Bool.false_bne, Bool.true_bne, bne_self_eq_false, Bool.false_eq_true, if_true, if_false, Bool.not_false, Bool.not_true, Nat.xor_zero, Bool.xor_false, Bool.xor_true, Bool.xor_self, Bool.false_xor, Bool.true_xor]
  · rw [Nat.xor_assoc]
  · rw [Nat.xor_assoc, Nat.xor_comm y, ← Nat.xor_assoc]
  · rw [Nat.xor_assoc, ← Nat.xor_assoc PP, Nat.xor_comm PP y, Nat.xor_assoc y, Nat.xor_self, Nat.xor_zero]
theorem st1_two (h : Nat) : st1 (2 * h) = h := by
  unfold st1
  rw [Nat.shiftRight_eq_div_pow]
  simp [Nat.testBit_zero]
def stn : Nat → Nat → Nat
  | 0, x => x
  | n + 1, x => stn n (st1 x)
theorem stn_xor : ∀ (n a b : Nat), stn n (a ^^^ b) = stn n a ^^^ stn n b
  | 0, a, b => rfl
  | n + 1, a, b => by simp only [stn, st1_xor, stn_xor n]
theorem stn_add : ∀ (m n x : Nat), stn (m + n) x = stn n (stn m x)
  | 0, n, x => by simp [stn]
  | m + 1, n, x => by rw [show m + 1 + n = (m + n) + 1 by omega]; simp only [stn, stn_add m n]
theorem stn_pow : ∀ (n h : Nat), stn n (2 ^ n * h) = h
  | 0, h => by simp [stn]
  | n + 1, h => by
    have : 2 ^ (n + 1) * h = 2 * (2 ^ n * h) := by rw [Nat.pow_succ]; simp [Nat.mul_comm, Nat.mul_left_comm]
    simp only [stn, this, st1_two, stn_pow n]
theorem st1_lt {x : Nat} (h : x < 2 ^ 32) : st1 x < 2 ^ 32 := by
  unfold st1
  refine Nat.xor_lt_two_pow ?_ ?_
  · rw [Nat.shiftRight_eq_div_pow]; omega
  · split <;> decide
theorem stn_lt : ∀ (n : Nat) {x : Nat}, x < 2 ^ 32 → stn n x < 2 ^ 32
  | 0, x, h => h
  | n + 1, x, h => stn_lt n (st1_lt h)
theorem split_xor (n a : Nat) : a = (2 ^ n * (a / 2 ^ n)) ^^^ (a % 2 ^ n) := by
  apply Nat.eq_of_testBit_eq
  intro i
  rw [Nat.testBit_xor, Nat.testBit_mod_two_pow, Nat.testBit_two_pow_mul, Nat.testBit_div_two_pow]
  by_cases h : n ≤ i
  · have : ¬ i < n := by omega
    simp [h, this]
  · have : i < n := by omega
    simp [h, this]
theorem nib (a : Nat) : stn 4 a = (a / 16) ^^^ stn 4 (a % 16) := by
  conv => lhs; rw [split_xor 4 a, stn_xor, stn_pow]
theorem half_eq (l : Nat) (h : l < 16) : rdD 0 glob2 (l : Int) = ((stn 4 l : Nat) : Int) := by
  have : l = 0 ∨ l = 1 ∨ l = 2 ∨ l = 3 ∨ l = 4 ∨ l = 5 ∨ l = 6 ∨ l = 7 ∨ l = 8 ∨ l = 9 ∨ l = 10 ∨ l = 11 ∨ l = 12 ∨ l = 13 ∨ l = 14 ∨ l = 15 := by omega
  rcases this with rfl | rfl | rfl | rfl | rfl | rfl | rfl | rfl | rfl | rfl | rfl | rfl | rfl | rfl | rfl | rfl <;> decide
theorem step_eq (x b : Nat) (hx : x < 2 ^ 32) (hb : b < 256) : sum_step x b = some ((stn 8 (x ^^^ b) : Nat) : Int) := by
  have hb2 : b < 2 ^ 32 := by omega
  have hy : x ^^^ b < 2 ^ 32 := Nat.xor_lt_two_pow hx hb2
  have hg : (glob2.length : Int) = 16 := rfl
  unfold sum_step
  rw [wu32 (x := (b : Int)) (by omega) (by omega), bx32 hx hb2]
  generalize x ^^^ b = y at *
  have f4 : ∀ a : Nat, Int.fdiv (a : Int) (2 ^ min (Int.toNat 4) 32) = ((a / 16 : Nat) : Int) := fun a => fd a 4 16 (by omega) rfl
  have h4 : stn 4 (y % 16) < 2 ^ 32 := stn_lt 4 (by omega)
  have hq : y / 16 < 2 ^ 32 := by omega
  rw [and15 hy, f4 y, half_eq _ (by omega), bx32 hq h4, ← nib y]
  have hz : stn 4 y < 2 ^ 32 := stn_lt 4 hy
  generalize hzz : stn 4 y = z at *
  have h5 : stn 4 (z % 16) < 2 ^ 32 := stn_lt 4 (by omega)
  have hq2 : z / 16 < 2 ^ 32 := by omega
  rw [and15 hz, f4 z, half_eq _ (by omega), bx32 hq2 h5, ← nib z, ← hzz, ← stn_add 4 4 y, if_pos (by omega), if_pos (by omega)]
end Go.Proofs.YtpciioffkjpieaaGreatDoor.Pure

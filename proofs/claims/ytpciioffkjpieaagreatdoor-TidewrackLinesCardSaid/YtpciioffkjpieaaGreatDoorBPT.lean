/- Plain laws: what the plain functions answer, with no program in sight. -/
import Derived.Test.YtpciioffkjpieaaGreatDoorBPS
import Derived.KernelRfl
set_option linter.unusedVariables false
set_option linter.unusedSimpArgs false
namespace Go.Proofs.YtpciioffkjpieaaGreatDoor.Pure
open Go Go.Proofs.XC Go.Proofs.YtpciioffkjpieaaGreatDoor

/-! ### Texts as numbers below 256 -/
def nb (s : ByteArray) : List Nat := s.data.toList.map UInt8.toNat
def sOf (l : List Nat) : ByteArray := strOfNums (l.map fun (n : Nat) => (n : Int))
def B8 (l : List Nat) : Prop := ∀ x ∈ l, x < 256
theorem nb_len (s : ByteArray) : (nb s).length = s.size := by
  show (List.map _ _).length = s.data.size
  simp
theorem nb_b8 (s : ByteArray) : B8 (nb s) := by
  intro x hx
  obtain ⟨b, _, rfl⟩ := List.mem_map.1 hx
  exact b.toNat_lt
theorem nb_get (s : ByteArray) (i : Nat) (h : i < s.size) : bt s (i : Int) = (((nb s)[i]'(by rw [nb_len]; exact h) : Nat) : Int) := by
  simp only [nb, bt, List.getElem_map, Int.toNat_natCast, h, dif_pos]
  rfl
/-! ### The sum -/
def crc : Nat → List Nat → Nat
  | x, [] => x
  | x, b :: l => crc (stn 8 (x ^^^ b)) l
theorem crc_append : ∀ (a : List Nat) (x : Nat) (b : List Nat), crc x (a ++ b) = crc (crc x a) b
  | [], x, b => rfl
  | c :: a, x, b => by simp only [List.cons_append, crc, crc_append a]
theorem crc_lt : ∀ (l : List Nat) (x : Nat), x < 2 ^ 32 → B8 l → crc x l < 2 ^ 32
  | [], x, h, _ => h
  | b :: l, x, h, hb => crc_lt l _ (stn_lt 8 (Nat.xor_lt_two_pow h (by have := hb b (by simp); omega))) (fun y hy => hb y (by simp [hy]))
def ones : Nat := 4294967295
def sumF (l : List Nat) : Nat := ones ^^^ crc ones l
theorem of_inner (l : List ByteArray) (i : Nat) (lp : Int → Int → Option Int) (s : ByteArray) (hs : rdD (⟨#[]⟩ : ByteArray) l (i : Int) = s) (hsz : s.size ≤ 1000000) : ∀ (k x j : Nat), s.size < k + j → j ≤ s.size → x < 2 ^ 32 →
    sum_Of_l4 l i lp k x j = lp ((crc x ((nb s).drop j) : Nat) : Int) (IntKind.wrap .i64 ((i : Int) + 1))
  | 0, x, j, h, h', hx => by omega
  | k + 1, x, j, h, h', hx => by
    have ih := of_inner l i lp s hs hsz k
    have hN := nb_len s
    unfold sum_Of_l4
    rw [hs]
    by_cases hj : j < s.size
    · have hw : IntKind.wrap .i64 ((j : Int) + 1) = ((j + 1 : Nat) : Int) := by rw [w64 (by omega) (by omega)]; omega
      have hb := nb_b8 s _ (List.getElem_mem (by omega : j < (nb s).length))
      rw [List.drop_eq_getElem_cons (by omega : j < (nb s).length), nb_get s j hj]
      simp only [cD, hw, step_eq x _ hx hb, bS, crc]
      rw [if_pos (by omega), if_pos (by omega)]
      exact ih _ (j + 1) (by omega) (by omega) (stn_lt 8 (Nat.xor_lt_two_pow hx (by omega)))
    · simp only [cD]
      rw [if_neg (by omega), List.drop_eq_nil_of_le (by omega)]
      rfl
theorem of_outer (K : Nat) (p : List ByteArray) (hp : p.length ≤ 1000000) (hs : ∀ s ∈ p, s.size ≤ 1000000 ∧ s.size < K) : ∀ (k x i : Nat), p.length < k + i → i ≤ p.length → x < 2 ^ 32 →
    sum_Of_l2 K p k x i = some ((ones ^^^ crc x ((p.drop i).flatMap nb) : Nat) : Int)
  | 0, x, i, h, h', hx => by omega
  | k + 1, x, i, h, h', hx => by
    have ih := of_outer K p hp hs k
    unfold sum_Of_l2
    by_cases hi : i < p.length
    · have hw : IntKind.wrap .i64 ((i : Int) + 1) = ((i + 1 : Nat) : Int) := by rw [w64 (by omega) (by omega)]; omega
      have hsz := hs _ (List.getElem_mem hi)
      have := of_inner p i (sum_Of_l2 K p k) p[i] (rdD_get _ _ hi) hsz.1 K x 0 (by omega) (by omega) hx
      simp only [cD]
      rw [if_pos (by omega), if_pos (by omega)]
      rw [show ((0 : Nat) : Int) = 0 from rfl] at this
      rw [this, hw, List.drop_zero, List.drop_eq_getElem_cons hi, List.flatMap_cons, crc_append]
      exact ih _ (i + 1) (by omega) (by omega) (crc_lt _ _ hx (nb_b8 _))
    · simp only [cD]
      rw [if_neg (by omega), List.drop_eq_nil_of_le (by omega)]
      simp only [sum_Of_j1, List.flatMap_nil, crc]
      rw [show (4294967295 : Int) = ((ones : Nat) : Int) from rfl, bx32 (by decide) hx]
theorem sof_eq (K : Nat) (p : List ByteArray) (hp : p.length ≤ 1000000) (hK : p.length < K) (hs : ∀ s ∈ p, s.size ≤ 1000000 ∧ s.size < K) : sum_Of K p = some ((sumF (p.flatMap nb) : Nat) : Int) := by
  have := of_outer K p hp hs K ones 0 (by omega) (by omega) (by decide)
  unfold sum_Of sumF
  simpa [ones] using this
/-! ### The document's sum -/
/-! ### Seals -/
theorem of_one (K : Nat) (s : ByteArray) (hs : s.size ≤ 1000000) (hK : s.size < K) (hK1 : 1 < K) : sum_Of K [s] = some ((sumF (nb s) : Nat) : Int) := by
  have := sof_eq K [s] (by simp) (by simpa using hK1) (by intro t ht; simp only [List.mem_singleton] at ht; subst ht; exact ⟨hs, hK⟩)
  rw [List.flatMap_cons, List.flatMap_nil, List.append_nil] at this
  exact this
end Go.Proofs.YtpciioffkjpieaaGreatDoor.Pure
